/- Several texts, joined. -/
import Derived.Test.YtjohcjfmlhihbaaQA3
set_option linter.unusedVariables false
set_option linter.unusedSimpArgs false
namespace Go.Proofs.Ytjohcjfmlhihbaa.G
open Go.RowKit Go.Proofs.YtjohcjfmlhihbaaW.PrintWords Go.Proofs.YtjohcjfmlhihbaaW.PrintLast Go.Proofs.YtjohcjfmlhihbaaW.PrintMore
set_option maxHeartbeats 8000000
set_option maxRecDepth 100000
attribute [local go_sem] cond_true cond_false fld23_0 fld23_1 fld45_0 fld45_1 fld109_0 fld109_1 fld94_0 fld94_1 max2_int min2_int max_two min_two max_three min_three max_four min_four   -- for this text's walks alone
def by_compare.l0:Nat → List Int → Int → Int → List (S23) → Option (List Int)
 | 0,_,_,_,_=>none
 | k + 1,x5,x8,x9,x1035000=>if x9 < x8 then (if x5.length < 17592186044416 then (by_compare.l0 k (x5 ++ [x9]) x8 (wrap64 (x9 + 1)) x1035000) else (none)) else ((slices_SortStableFunc_int_int.f k x5 x1035000).bind fun t1039=>(some t1039))
def by_compare.f (k:Nat) (l0:List (S23)):Option (List Int):=by_compare.l0 k ([]:List Int) (l0.length:Int) 0 l0
theorem by_compare.mono_l:∀ k,(∀ y0 y1 y2 y3,LeO (by_compare.l0 k y0 y1 y2 y3) (by_compare.l0 (k + 1) y0 y1 y2 y3))
 | 0=>fun _ _ _ _ r h=>by simp [by_compare.l0] at h
 | k + 1=>by
  have ih0:=by_compare.mono_l k
  intro y0 y1 y2 y3
  unfold by_compare.l0
  repeat' first
  | (with_reducible exact ih0 _ _ _ _)
  | (with_reducible exact slices_SortStableFunc_int_int.mono _ _ _)
  | (with_reducible exact LeO.refl _)
  | (with_reducible exact LeO.none _)
  | (with_reducible refine LeO.ite ?_ ?_)
  | (with_reducible refine LeO.bind ?_ (fun _=>?_))
  | exact ih0 _ _ _ _
  | exact slices_SortStableFunc_int_int.mono _ _ _
  | exact LeO.none _
  | refine LeO.ite ?_ ?_
  | refine LeO.bind ?_ (fun _=>?_)
theorem by_compare.mono:∀ a0 k,LeO (by_compare.f k a0) (by_compare.f (k + 1) a0):=by
 intro a0 k
 have ih0:=by_compare.mono_l k
 unfold by_compare.f
 repeat' first
   | (with_reducible exact ih0 _ _ _ _)
   | (with_reducible exact slices_SortStableFunc_int_int.mono _ _ _)
   | (with_reducible exact LeO.refl _)
   | (with_reducible exact LeO.none _)
   | (with_reducible refine LeO.ite ?_ ?_)
   | (with_reducible refine LeO.bind ?_ (fun _=>?_))
   | exact ih0 _ _ _ _
   | exact slices_SortStableFunc_int_int.mono _ _ _
   | exact LeO.none _
   | refine LeO.ite ?_ ?_
   | refine LeO.bind ?_ (fun _=>?_)
theorem by_compare.calls (k:Nat) (A0:Option Addr) (c0:Nat) (l0:List (S23)) (r:List Int) (w:World) (hr0:Kd.C k23 w A0 l0.length l0) (hc0:l0.length ≤ c0) (h:by_compare.f k l0 = some r) :
  Calls Try.prog 84 #[.slice A0 l0.length c0,.func (.func 85) #[] #[]] w fun e w'=>∃ v0_:Value,e = .returned (v0_) ∧ Kd.R (Kd.int .i64) 3 w' w.heap.size (fun _=>True) v0_ r ∧ Below w.heap.size w w':=by
 have HR0:=A_ hr0
 have HC0:=A_ hc0
 clear hr0 hc0
 have HB:=A_ (Below.refl w.heap.size w)
 have H:(by_compare.l0 k ([]:List Int) (l0.length:Int) 0 l0) = some r:=h
 clear h
 have H':=A_ H
 clear H
 go_enter Try.func84,Try.ntmps84
 go_wp2_with (first | ((with_reducible refine gate_dst (N:=2) rfl ?_);refine box_event ?hg (N:=2) ?hd (cs:=#[.slice A0 l0.length c0]) (t:=35) ?hr ?_;(case hd=>rfl);(case hg=>rfl);(case hr=>first | (go_simp;done) | (go_simp;rfl));intro gb1034 hg w2 hbox hb;have BK1034:=A_ hbox;have GW1034:=gw hg HB;have GE1034:=GW1034;replace HB:=bB HB hb;clear hb hbox hg) | ((with_reducible refine gate_dst (N:=3) rfl ?_);refine box_event ?hg (N:=3) ?hd (cs:=#[.func (.func 85) #[] #[]]) (t:=123) ?hr ?_;(case hd=>rfl);(case hg=>rfl);(case hr=>first | (go_simp;done) | (go_simp;rfl));intro gb1035 hg w3 hbox hb;have BK1035:=A_ hbox;have GW1035:=gw hg HB;have GE1035:=GW1035;have NB1034_1035:=nl hg BK1034;have NB1035_1034:=ng hg BK1034;replace BK1034:=kB BK1034 hb;replace HB:=bB HB hb;clear hb hbox hg;have hnb4:=NB1034_1035.out;have hnc4:=NB1035_1034.out;have hcz5_0:w3.cell? ⟨gb1034,0,none⟩ = some (.slice A0 l0.length c0):=cz BK1034 0;have hfz5_0:=blk_frozen BK1034.out 0))
 go_loopg [5,9] k (fun kq v5 v9 w'=>∃ (x5_1:List Int) (x9_1:Int),v9 = .int .i64 x9_1 ∧ Aside0 (by_compare.l0 kq x5_1 (l0.length:Int) x9_1 l0 = some r) ∧ Aside0 (kq ≤ k) ∧ Aside0 (Kd.R (Kd.int .i64) 3 w' w.heap.size (fun _=>True) v5 x5_1) ∧ Aside0 (w'.heap[gb1034]? = some (.cells #[(.slice A0 l0.length c0)] 35 (0,0))) ∧ Aside0 (w'.heap[gb1035]? = some (.cells #[.func (.func 85) #[] #[]] 123 (0,0))) ∧ Aside0 (Below w.heap.size w w'))
 case atStart=>exact ⟨(([]:List Int)),(0),(by first | rfl | (simp;done) | (simp [*];done)),H',⟨Nat.le_refl _⟩,⟨by first | exact Kd.R_nil _ _ _ _ _ | exact Kd.N_nil _ _ _ _ _ | exact Kd.V_nil _ _ _ _ _ | exact Kd.Q_nil _ _ _ _ _ | exact Kd.S_nil _ _ _ _ _⟩,⟨by (with_reducible repeat (first | refine blk_drewN ?_ _ | refine blk_drew ?_ | refine blk_alloc ?_ _));exact BK1034.out⟩,⟨by (with_reducible repeat (first | refine blk_drewN ?_ _ | refine blk_drew ?_ | refine blk_alloc ?_ _));exact BK1035.out⟩,⟨by repeat (first | (with_reducible first | exact HB.out | apply below_alloc | apply pw_below_drewN | apply below_drew1 | refine below_set ?_ GE1034.out | refine below_set ?_ GE1035.out) | exact HB.out)⟩⟩
 case round =>
  clear H'
  try clear p2
  try clear c4
  try clear hcz5_0
  try clear hfz5_0
  obtain ⟨x5_1,x9_1,rfl,HA,HK1,HO_5,BK1034,BK1035,HB⟩:=hrel
  cases gk with
  | zero=>exact absurd HA.out (by simp [by_compare.l0])
  | succ k1 =>
   have H:=HA.out
   clear HA
   simp only [by_compare.l0] at H
   by_cases c6:x9_1 < (l0.length:Int)
   case neg =>
    rw [if_neg c6] at H
    have c6b0:decide (x9_1 < (l0.length:Int)) = false:=decide_eq_false c6
    clear c6
    replace H:=Option.bind_eq_some_iff.mp H
    obtain ⟨t1039,A90,H⟩:=H
    replace H:(some t1039) = some r:=H
    have A9:=A_ A90
    clear A90
    obtain rfl:=Option.some.inj H
    have hnb10:=NB1034_1035.out
    have hnc10:=NB1035_1034.out
    have hcz11_0:wr.cell? ⟨gb1034,0,none⟩ = some (.slice A0 l0.length c0):=cz BK1034 0
    have hfz11_0:=blk_frozen BK1034.out 0
    obtain ⟨Ao12,co12,eo12⟩:=Kd.R_slice HO_5.out
    subst eo12
    go_wp2_with fail
    refine (slices_SortStableFunc_int_int.calls k1 (fun k_=>some k_ = (.slice Ao12 x5_1.length co12:Value).ownBlock) (.slice Ao12 x5_1.length co12) x5_1 _ _ l0 t1039 w _ gb1035 gb1034 (fun W_ hk_=>blk_kept (kb BK1035) hk_ (fun hs_=>(fun e_=>(Kd.R_ne HO_5.out BK1035.out (by decide)) e_) hs_)) (fun W_ hk_=>blk_kept (kb BK1034) hk_ (fun hs_=>(fun e_=>(Kd.R_ne HO_5.out BK1034.out (by decide)) e_) hs_)) NB1035_1034.out ?side1 ?side2 ?side3 ?side4 A9.out).mono ?_
    case side1=>repeat (first | (with_reducible first | exact HB.out | apply below_alloc | apply pw_below_drewN | apply below_drew1 | refine below_set ?_ GE1034.out | refine below_set ?_ GE1035.out) | exact HB.out)
    case side2=>exact Kd.R_tight rfl HO_5.out
    case side3=>exact Kd.C_kept_came k23_heap HR0.out (bl HB) (fun k_ hs_=>(fun e_=>Kd.R_base HO_5.out k_ e_.symm) hs_)
    case side4=>exact HC0.out
    rintro e w13 ⟨rfl,hy0,hb,hkp⟩
    replace BK1034:=A_ (blk_kept (kb BK1034) hkp (fun hs_=>(fun e_=>(Kd.R_ne HO_5.out BK1034.out (by decide)) e_) hs_))
    replace BK1035:=A_ (blk_kept (kb BK1035) hkp (fun hs_=>(fun e_=>(Kd.R_ne HO_5.out BK1035.out (by decide)) e_) hs_))
    replace HO_5:=A_ (Kd.R_reok rfl hy0 (fun k_ e_=>HO_5.out.1 k_ e_))
    replace HB:=A_ hb
    (try clear hb)
    (try clear hkp)
    (try clear hy0)
    go_wp2_with fail
    go_ret
    exact ⟨_,by first | rfl | (simp [errW_none,errW_some] <;> rfl) | (simp [*,errW_none,errW_some] <;> rfl),by (with_reducible repeat (first | apply Kd.R_alloc | apply Kd.R_drewN | apply Kd.R_drew));exact HO_5.out,by repeat (first | (with_reducible first | exact HB.out | apply below_alloc | apply pw_below_drewN | apply below_drew1 | refine below_set ?_ GE1034.out | refine below_set ?_ GE1035.out) | exact HB.out)⟩
   rw [if_pos c6] at H
   have c6b0:decide (x9_1 < (l0.length:Int)) = true:=decide_eq_true c6
   clear c6
   by_cases c7:x5_1.length < 17592186044416
   case neg =>
    rw [if_neg c7] at H
    exact absurd H (by simp)
   rw [if_pos c7] at H
   have LMc7:=A_ c7
   clear c7
   obtain ⟨y1036,hy1036⟩:∃ y_:List Int,y_ = (x5_1 ++ [x9_1]):=⟨_,rfl⟩
   replace H:(by_compare.l0 k1 y1036 (l0.length:Int) (wrap64 (x9_1 + 1)) l0) = some r:=by first | (rw [hy1036];with_reducible exact H) | (have H2_:=(Option.bind_some _ _).symm.trans H;rw [hy1036];with_reducible exact H2_) | (have H2_:=(Option.bind_some _ _).symm.trans H;with_reducible exact H2_) | with_reducible exact H | (rw [hy1036];exact H) | exact H
   have Ny1036:=A_ hy1036
   clear hy1036
   have H':=A_ H
   clear H
   go_wp2_with (first | ((with_reducible refine gate_builtin (b:=.append) (xs:=#[.tmp 12,.tmp 14]) rfl ?_);at_builtin;refine Kd.R_append (Kd.int .i64) (w0:=w) w.heap.size rfl (.tmp 12) (.tmp 14) 28 3 (.int .i64 0) 8 rfl Try.underlying28 info3 rfl (by decide) (by omega) u5 x5_1 x9_1 [.int .i64 x9_1] (fun _=>True) (fun _=>False) rfl rfl ?aP (fun _ hk=>hk.elim) ?aF ?aO ?aB ?aS ?aL ?_;(case aP=>exact rfl);(case aB=>exact (bl HB));(case aF=>exact (fun _ _=>trivial));(case aO=>exact (rs HO_5));(case aS=>exact (below_size (bl HB)));(case aL=>have:=LMc7.out;omega);intro v1037 w8 ho hb hg hat;rw [← Ny1036.out] at ho;have HO1038:=A_ ho;replace BK1034:=A_ (blk_grown (g:=gb1034) (o:=.cells #[.slice A0 l0.length c0] 35 (0,0)) (kb BK1034) hg (Kd.R_ne HO_5.out BK1034.out (by decide)));replace BK1035:=A_ (blk_grown (g:=gb1035) (o:=.cells #[.func (.func 85) #[] #[]] 123 (0,0)) (kb BK1035) hg (Kd.R_ne HO_5.out BK1035.out (by decide)));replace HB:=A_ hb;clear HO_5;clear ho hb hg hat))
   go_roundg k1
   case measure=>have:=HK1.out;omega
   case rel=>exact ⟨(y1036),(wrap64 (x9_1 + 1)),(by first | rfl | (simp;done) | (simp [*];done)),H',⟨by have:=HK1.out;omega⟩,⟨by (with_reducible repeat (first | apply Kd.R_alloc | apply Kd.R_drewN | apply Kd.R_drew));exact HO1038.out⟩,⟨by (with_reducible repeat (first | refine blk_drewN ?_ _ | refine blk_drew ?_ | refine blk_alloc ?_ _));exact BK1034.out⟩,⟨by (with_reducible repeat (first | refine blk_drewN ?_ _ | refine blk_drew ?_ | refine blk_alloc ?_ _));exact BK1035.out⟩,⟨by repeat (first | (with_reducible first | exact HB.out | apply below_alloc | apply pw_below_drewN | apply below_drew1 | refine below_set ?_ GE1034.out | refine below_set ?_ GE1035.out) | exact HB.out)⟩⟩
end Go.Proofs.Ytjohcjfmlhihbaa.G
namespace Go.Proofs.Ytjohcjfmlhihbaa.G
open Go.RowKit Go.Proofs.YtjohcjfmlhihbaaW.PrintWords Go.Proofs.YtjohcjfmlhihbaaW.PrintLast Go.Proofs.YtjohcjfmlhihbaaW.PrintMore
set_option maxHeartbeats 8000000
set_option maxRecDepth 100000
attribute [local go_sem] cond_true cond_false fld23_0 fld23_1 fld45_0 fld45_1 fld109_0 fld109_1 fld94_0 fld94_1 max2_int min2_int max_two min_two max_three min_three max_four min_four
def shares_equal.l0:Nat → List (S23) → List (S23) → Int → List Int → Int → Int → Int → Int → Option ((List (S23)))
 | 0,_,_,_,_,_,_,_,_=>none
 | k + 1,x0,x5,x6,x15,x16,x17,x1558000,x1558001=>if x17 < x16 then (if 0 ≤ x17 then (if x17 < (x15.length:Int) then (if 0 ≤ (rd x15 x17) then (if (rd x15 x17) < (x0.length:Int) then ((shares_over.f k x1558000 x1558001 x6).bind fun bt1566=>((shares_smaller.f k ((rd_T23 x0 (rd x15 x17)).f0) ((rd_T23 x0 (rd x15 x17)).f1) bt1566.1 bt1566.2).bind fun bt1568=>(if (rd x15 x17) < (x5.length:Int) then ((some (x5.set ((rd x15 x17):Int).toNat (⟨bt1568.1,bt1568.2⟩:S23):List (S23))).bind fun y1570=>((shares_minus.f k x1558000 x1558001 ((rd_T23 y1570 (rd x15 x17)).f0) ((rd_T23 y1570 (rd x15 x17)).f1)).bind fun bt1572=>(shares_equal.l0 k x0 y1570 (wrap64 (x6 - 1)) x15 x16 (wrap64 (x17 + 1)) bt1572.1 bt1572.2))) else (none)))) else (none)) else (none)) else (none)) else (none)) else (some x5)
def shares_equal.f (k:Nat) (l0:List (S23)) (a1_0:Int) (a1_1:Int):Option ((List (S23))):=if 0 ≤ (l0.length:Int) then (if ((l0.length:Int):Int).toNat ≤ 17592186044416 then ((by_compare.f k l0).bind fun t1561=>(shares_equal.l0 k l0 (List.replicate ((l0.length:Int):Int).toNat z23) (l0.length:Int) t1561 (t1561.length:Int) 0 a1_0 a1_1)) else (none)) else (none)
theorem shares_equal.mono_l:∀ k,(∀ y0 y1 y2 y3 y4 y5 y6 y7,LeO (shares_equal.l0 k y0 y1 y2 y3 y4 y5 y6 y7) (shares_equal.l0 (k + 1) y0 y1 y2 y3 y4 y5 y6 y7))
 | 0=>fun _ _ _ _ _ _ _ _ r h=>by simp [shares_equal.l0] at h
 | k + 1=>by
  have ih0:=shares_equal.mono_l k
  intro y0 y1 y2 y3 y4 y5 y6 y7
  unfold shares_equal.l0
  repeat' first
  | (with_reducible first | exact ih0 _ _ _ _ _ _ _ _ | exact by_compare.mono _ _ | exact shares_minus.mono _ _ _ _ _ | exact shares_over.mono _ _ _ _ | exact shares_smaller.mono _ _ _ _ _ | exact LeO.refl _ | exact LeO.none _ | refine LeO.ite ?_ ?_ | refine LeO.bind ?_ (fun _=>?_))
  | exact LeO.none _ | refine LeO.ite ?_ ?_ | refine LeO.bind ?_ (fun _=>?_)
theorem shares_equal.mono:∀ a0 a1 a2 k,LeO (shares_equal.f k a0 a1 a2) (shares_equal.f (k + 1) a0 a1 a2):=by
 intro a0 a1 a2 k
 have ih0:=shares_equal.mono_l k
 unfold shares_equal.f
 repeat' first
   | (with_reducible first | exact ih0 _ _ _ _ _ _ _ _ | exact by_compare.mono _ _ | exact shares_minus.mono _ _ _ _ _ | exact shares_over.mono _ _ _ _ | exact shares_smaller.mono _ _ _ _ _ | exact LeO.refl _ | exact LeO.none _ | refine LeO.ite ?_ ?_ | refine LeO.bind ?_ (fun _=>?_))
   | exact LeO.none _ | refine LeO.ite ?_ ?_ | refine LeO.bind ?_ (fun _=>?_)
def shares_equal.T6:Bool × List (List Nat × List Nat):=(true,[([],[]),([],[]),([],[]),([],[]),([2,3],[2,3]),([4],[4]),([],[]),([],[]),([6,7],[6,7]),([5,8,8],[5,8]),([0,1,0,1,2,3,4,5,6,7,8,9],[0,1]),([10,9,9,0,1,2,3,4,5,6,7,8,9],[9,10])])
def shares_equal.B6:List Nat:=[0,0,0,0,12,28,0,0,192,508,1023,2047]
theorem shares_equal.tab6:rtab .any (opsOf Try.f122 6) = shares_equal.T6:=by kernel_rfl
theorem shares_equal.bits6:waitsOk shares_equal.T6.2 shares_equal.B6 = true:=by kernel_rfl
theorem shares_equal.calls (k:Nat) (A0:Option Addr) (c0:Nat) (l0:List (S23)) (a1_0:Int) (a1_1:Int) (r:List (S23)) (w:World) (hr0:Kd.C k23 w A0 l0.length l0) (hc0:l0.length ≤ c0) (h:shares_equal.f k l0 a1_0 a1_1 = some r) :
  Calls Try.prog 122 #[.slice A0 l0.length c0,.agg #[.int .i64 a1_0,.int .i64 a1_1]] w fun e w'=>∃ v0_:Value,e = .returned (v0_) ∧ Kd.R k23 23 w' w.heap.size (fun _=>True) v0_ r ∧ Below w.heap.size w w':=by
 have hu23:=Try.underlying23
 have HR0:=A_ hr0
 have HC0:=A_ hc0
 clear hr0 hc0
 have HB:=A_ (Below.refl w.heap.size w)
 have H:(if 0 ≤ (l0.length:Int) then (if ((l0.length:Int):Int).toNat ≤ 17592186044416 then ((by_compare.f k l0).bind fun t1561=>(shares_equal.l0 k l0 (List.replicate ((l0.length:Int):Int).toNat z23) (l0.length:Int) t1561 (t1561.length:Int) 0 a1_0 a1_1)) else (none)) else (none)) = some r:=h
 clear h
 replace H:=gd H
 obtain ⟨c3,H⟩:=H
 have c3b0:=eq_true c3
 have c3b1:=decide_eq_true c3
 clear c3
 replace H:=gd H
 obtain ⟨c4,H⟩:=H
 have c4b0:=eq_true c4
 have c4b1:=decide_eq_true c4
 clear c4
 obtain ⟨y1558,hy1558⟩:∃ y_:List (S23),y_ = (List.replicate ((l0.length:Int):Int).toNat z23):=⟨_,rfl⟩
 replace H:((by_compare.f k l0).bind fun t1561=>(shares_equal.l0 k l0 y1558 (l0.length:Int) t1561 (t1561.length:Int) 0 a1_0 a1_1)) = some r:=by rw [hy1558];exact H
 have Ny1558:=A_ hy1558
 clear hy1558
 replace H:=Option.bind_eq_some_iff.mp H
 obtain ⟨t1561,A50,H⟩:=H
 replace H:(shares_equal.l0 k l0 y1558 (l0.length:Int) t1561 (t1561.length:Int) 0 a1_0 a1_1) = some r:=H
 have A5:=A_ A50
 clear A50
 have H':=A_ H
 clear H
 go_enter Try.func122,Try.ntmps122
 go_wp2_with (first | ((with_reducible refine gate_dst (N:=3) rfl ?_);refine bx 3 #[.int .i64 a1_0,.int .i64 a1_1] 23 ?_;intro gb1557 hg w6 hbox hb;have BK1557:=A_ hbox;have GW1557:=gw hg HB;have GE1557:=GW1557;replace HB:=bB HB hb;clear hb hbox hg) | ((with_reducible refine gate_dst (N:=11) rfl ?_);refine Kd.R_make k23 _ 23 rfl (N:=11) rfl 35 _ _ rfl (l0.length:Int) rfl rfl Try.underlying35 (.agg #[(.int .i64 0),(.int .i64 0)]) 16 info23 rfl (by decide) (by omega) z23 (ok:=fun _=>True) (okp:=fun _=>True) (k23_mkM _ _ _ z23 ) (fun _ hk=>hk) trivial (of_decide_eq_true (by assumption)) (Nat.le_trans (Nat.mul_le_mul_right _ (of_decide_eq_true (by assumption):(l0.length:Int).toNat ≤ 17592186044416)) (by omega)) (Below.refl _ _) (Nat.le_refl _) ?_;intro v1559 w7 ho8 hb hg_ hnew_;clear hg_ hnew_;(first | rw [← Ny1558.out] at ho8 | (simp only [Int.reduceToNat] at ho8;rw [← Ny1558.out] at ho8));have HO1560:=A_ (Kd.R_lower (Kd.R_newB ho8 (g:=gb1557) (o:=.cells #[.int .i64 a1_0,.int .i64 a1_1] 23 (0,0)) BK1557.out) (below_size HB.out));replace BK1557:=kB BK1557 hb;replace HB:=bB HB hb;clear hb ho8) | ((with_reducible refine gate_callee (f:=84) rfl ?_);refine gL (some 15) Try.func84 #[.slice A0 l0.length c0,.func (.func 85) #[] #[]] ?_;(with_reducible refine (by_compare.calls k _ _ l0 t1561 _ ?side1 ?side2 A5.out).mono ?_);(case side1=>exact cB HR0 HB);(case side2=>exact HC0.out);rintro e w9 ⟨v1562,rfl,ho0,hb⟩;refine ⟨_,rfl,?_⟩;have HO1563:=A_ (Kd.R_lower ho0 (below_size HB.out));replace HO1560:=rB HO1560 hb;replace BK1557:=kB BK1557 hb;replace HB:=bB HB hb;(try clear hb);obtain ⟨Ao10,co10,eo10⟩:=Kd.R_slice HO1563.out;subst eo10))
 go_loopg [6,17] k (fun kq v6 v17 w'=>∃ (x5_1:List (S23)) (x6_1:Int) (x17_1:Int) (x1558000_1:Int) (x1558001_1:Int),v6 = .int .i64 x6_1 ∧ v17 = .int .i64 x17_1 ∧ Aside0 (shares_equal.l0 kq l0 x5_1 x6_1 t1561 (t1561.length:Int) x17_1 x1558000_1 x1558001_1 = some r) ∧ Aside0 (kq ≤ k) ∧ Aside0 (Kd.R k23 23 w' w.heap.size (fun k_=>k_ ≠ gb1557) v1559 x5_1) ∧ Aside0 (Kd.R (Kd.int .i64) 3 w' w.heap.size (fun _=>True) (.slice Ao10 t1561.length co10) t1561) ∧ Aside0 (w'.heap[gb1557]? = some (.cells #[.int .i64 x1558000_1,.int .i64 x1558001_1] 23 (0,0))) ∧ Aside0 (Below w.heap.size w w'))
 case atStart=>exact ⟨(y1558),((l0.length:Int)),(0),(a1_0),(a1_1),rfl,rfl,H',⟨Nat.le_refl _⟩,⟨by exact Kd.R_mono HO1560.out (fun _ hk=>hk.2)⟩,⟨by exact HO1563.out⟩,⟨by exact BK1557.out⟩,⟨bl HB⟩⟩
 case round =>
  clear H'
  obtain ⟨x5_1,x6_1,x17_1,x1558000_1,x1558001_1,rfl,rfl,HA,HK1,HO_5,HO_15,BK1557,HB⟩:=hrel
  cases gk with
  | zero=>exact absurd HA.out (by simp [shares_equal.l0])
  | succ k1 =>
   have H:=HA.out
   clear HA
   simp only [shares_equal.l0] at H
   by_cases c11:x17_1 < (t1561.length:Int)
   case neg =>
    rw [if_neg c11] at H
    have c11b0:=decide_eq_false c11
    clear c11
    obtain rfl:=Option.some.inj H
    go_wp2
    go_ret
    exact ⟨_,rfl,by exact Kd.R_mono HO_5.out (fun _ hk=>trivial),bl HB⟩
   rw [if_pos c11] at H
   have c11b0:=decide_eq_true c11
   clear c11
   replace H:=gd H
   obtain ⟨c12,H⟩:=H
   have c12b0:=decide_eq_true c12
   clear c12
   replace H:=gd H
   obtain ⟨c13,H⟩:=H
   have c13b0:=decide_eq_true c13
   clear c13
   replace H:=gd H
   obtain ⟨c14,H⟩:=H
   have c14b0:=decide_eq_true c14
   clear c14
   replace H:=gd H
   obtain ⟨c15,H⟩:=H
   have c15b0:=decide_eq_true c15
   clear c15
   replace H:=Option.bind_eq_some_iff.mp H
   obtain ⟨⟨t1566,t1567⟩,A160,H⟩:=H
   dsimp only at H
   have A16:=A_ A160
   clear A160
   replace H:=Option.bind_eq_some_iff.mp H
   obtain ⟨⟨t1568,t1569⟩,A170,H⟩:=H
   dsimp only at H
   have A17:=A_ A170
   clear A170
   replace H:=gd H
   obtain ⟨c18,H⟩:=H
   have c18b0:=decide_eq_true c18
   clear c18
   obtain ⟨y1570,hy1570⟩:∃ y_:List (S23),y_ = (x5_1.set ((rd t1561 x17_1):Int).toNat (⟨t1568,t1569⟩:S23)):=⟨_,rfl⟩
   replace H:((shares_minus.f k1 x1558000_1 x1558001_1 ((rd_T23 y1570 (rd t1561 x17_1)).f0) ((rd_T23 y1570 (rd t1561 x17_1)).f1)).bind fun bt1572=>(shares_equal.l0 k1 l0 y1570 (wrap64 (x6_1 - 1)) t1561 (t1561.length:Int) (wrap64 (x17_1 + 1)) bt1572.1 bt1572.2)) = some r:=by rw [hy1570];exact H
   have Ny1570:=A_ hy1570
   clear hy1570
   replace H:=Option.bind_eq_some_iff.mp H
   obtain ⟨⟨t1572,t1573⟩,A200,H⟩:=H
   dsimp only at H
   have A20:=A_ A200
   clear A200
   have H':=A_ H
   clear H
   have p1564:0 ≤ (x17_1:Int):=of_decide_eq_true (by assumption)
   have q1564:x17_1 < (t1561.length:Int):=of_decide_eq_true (by assumption)
   obtain ⟨ad1564,e1564,hx1564_0⟩:=Kd.at_int (Kd.R_reads' HO_15.out).2.2 x17_1 p1564 q1564
   cases e1564
   replace p1564:=eq_true p1564
   replace q1564:=eq_true q1564
   try go_wp2
   replace HO_5:=rD HO_5
   replace HO_15:=rD HO_15
   replace BK1557:=kD BK1557
   replace HB:=bD HB
   have p1565:0 ≤ ((rd t1561 x17_1):Int):=of_decide_eq_true (by assumption)
   have q1565:(rd t1561 x17_1) < (l0.length:Int):=of_decide_eq_true (by assumption)
   obtain ⟨ad1565,e1565,hx1565_0,hx1565_1⟩:=at_T23 HR0.out (rd t1561 x17_1) p1565 q1565
   have hw1565_1:=hx1565_1
   have hw1565_0:=hx1565_0
   cases e1565
   replace hx1565_0:=(HB.out.cell (World.block_lt_of_cell? w _ hx1565_0)).trans hx1565_0
   replace hx1565_1:=(HB.out.cell (World.block_lt_of_cell? w _ hx1565_1)).trans hx1565_1
   replace p1565:=eq_true p1565
   replace q1565:=eq_true q1565
   refine start_ (n:=12) (S:=fun w'=>w'.cell? ⟨gb1557,0,none⟩ = some (.int .i64 x1558000_1) ∧ w'.cell? ⟨gb1557,1,none⟩ = some (.int .i64 x1558001_1) ∧ w'.cell? (ad1565.add (((rd t1561 x17_1)).toNat * 2)) = some (.int .i64 ((rd_T23 l0 (rd t1561 x17_1)).f0)) ∧ w'.cell? ⟨(ad1565.add (((rd t1561 x17_1)).toNat * 2)).block,(ad1565.add (((rd t1561 x17_1)).toNat * 2)).off + 1,none⟩ = some (.int .i64 ((rd_T23 l0 (rd t1561 x17_1)).f1))) (ds:=[11]) (ba 12 0) (by kernel_rfl) rfl rfl ⟨cz BK1557 0,cz BK1557 1,((HB.out.cell (World.block_lt_of_cell? w _ hw1565_0)).trans hw1565_0),((HB.out.cell (World.block_lt_of_cell? w _ hw1565_1)).trans hw1565_1)⟩ (fun hHeld=>?_);refine with_tabW shares_equal.tab6 shares_equal.bits6 (fun HT_ HW_=>?_)
   generalize wr.drew = w21 at HO_5 HO_15 BK1557 HB hx1565_0 hx1565_1 hHeld ⊢
   refine pq 0 21 1 HT_ ?_
   refine pq 1 22 3 HT_ ?_
   refine pq 2 23 7 HT_ ?_
   refine pq 3 24 15 HT_ ?_
   refine pq 4 25 31 HT_ ?_
   refine pq 7 28 159 HT_ ?_
   refine tq 5 26 191 HT_ HW_ hHeld ?_
   refine tq 6 27 255 HT_ HW_ hHeld ?_
   refine oq 8 29 511 HT_ (fun K hK=>?_)
   refine gq Try.func96 #[.agg #[.int .i64 x1558000_1,.int .i64 x1558001_1],.int .i64 x6_1] ?_
   with_reducible refine (shares_over.calls k1 x1558000_1 x1558001_1 x6_1 t1566 t1567 _ A16.out).mono ?_
   rintro e w22 ⟨rfl,hb⟩
   refine ⟨_,rfl,?_⟩
   replace HO_5:=rB HO_5 hb
   replace HO_15:=rB HO_15 hb
   replace BK1557:=kB BK1557 hb
   replace HB:=bB HB hb
   (try clear hb)
   refine hK.out _ _ ⟨cz BK1557 0,cz BK1557 1,((HB.out.cell (World.block_lt_of_cell? w _ hw1565_0)).trans hw1565_0),((HB.out.cell (World.block_lt_of_cell? w _ hw1565_1)).trans hw1565_1)⟩ (fun hHeld=>?_)
   clear hK K
   refine nq 29 ?_
   refine oq 9 30 1023 HT_ (fun K hK=>?_)
   refine gq Try.func129 #[.agg #[.int .i64 ((rd_T23 l0 (rd t1561 x17_1)).f0),.int .i64 ((rd_T23 l0 (rd t1561 x17_1)).f1)],.agg #[.int .i64 t1566,.int .i64 t1567]] ?_
   with_reducible refine (shares_smaller.calls k1 ((rd_T23 l0 (rd t1561 x17_1)).f0) ((rd_T23 l0 (rd t1561 x17_1)).f1) t1566 t1567 t1568 t1569 _ A17.out).mono ?_
   rintro e w23 ⟨rfl,hb⟩
   refine ⟨_,rfl,?_⟩
   replace HO_5:=rB HO_5 hb
   replace HO_15:=rB HO_15 hb
   replace BK1557:=kB BK1557 hb
   replace HB:=bB HB hb
   (try clear hb)
   have p19:0 ≤ ((rd t1561 x17_1):Int):=of_decide_eq_true (by assumption)
   have q19:((rd t1561 x17_1):Int) < ((x5_1.length:Int):Int):=of_decide_eq_true (by assumption)
   obtain ⟨go19,co19,eo19,gb19,gl19,cl19,HG19⟩:=Kd.R_form HO_5.out (by omega)
   (first | cases eo19 | (injection eo19 with ea_ en_ ec_;(first | subst ea_ | (injection ea_ with ea_;subst ea_));subst ec_;clear en_))
   have GB19:=A_ gb19
   have GG19:=A_ HG19
   clear gb19 gl19 HG19
   obtain ⟨ce19,hcl19,hM19,hcc19,hfr19⟩:=Kd.R_elem HO_5.out z23 ((rd t1561 x17_1):Int) p19 q19
   obtain rfl:=k23_openM hM19
   have hx19_0:World.cell? _ ⟨go19,((rd t1561 x17_1):Int).toNat * 2,none⟩ = some (.int .i64 ((rd_T23 x5_1 (rd t1561 x17_1)).f0)):=hcc19 0 _ rfl
   have hx19_1:World.cell? _ ⟨go19,((rd t1561 x17_1):Int).toNat * 2 + 1,none⟩ = some (.int .i64 ((rd_T23 x5_1 (rd t1561 x17_1)).f1)):=hcc19 1 _ rfl
   have hf19_0:World.frozen? _ ⟨go19,((rd t1561 x17_1):Int).toNat * 2,none⟩ = false:=hfr19 0
   have hf19_1:World.frozen? _ ⟨go19,((rd t1561 x17_1):Int).toNat * 2 + 1,none⟩ = false:=hfr19 1
   clear hcl19 hcc19 hfr19 hM19
   replace p19:=eq_true p19
   replace q19:=eq_true q19
   obtain ⟨ce24,hcl24,hM24,hcc24,hfr24⟩:=Kd.R_elem HO_5.out z23 ((rd t1561 x17_1):Int) (of_decide_eq_true (by assumption)) (by have h_:((rd t1561 x17_1):Int) < ((x5_1.length:Int):Int):=of_decide_eq_true (by assumption);first | exact h_ | (have e_:=(Kd.R_reads' HO_5.out).1;omega) | simpa using h_)
   obtain rfl:=k23_openM hM24
   have HP24:=(Kd.R_seg HO_5.out ((rd t1561 x17_1):Int) (of_decide_eq_true (by assumption)) (by have h_:((rd t1561 x17_1):Int) < ((x5_1.length:Int):Int):=of_decide_eq_true (by assumption);first | exact h_ | (have e_:=(Kd.R_reads' HO_5.out).1;omega) | simpa using h_) (seg:=[.int .i64 t1568,.int .i64 t1569]) (j:=0) hcl24 hcc24 (show 2 ≤ 2 from by decide) (x':=(⟨t1568,t1569⟩:S23)) (k23_mkM _ _ _ (⟨t1568,t1569⟩:S23) ) (fun _ hk=>hk)).1
   rw [← Ny1570.out] at HP24
   have HQ24:=A_ HP24
   clear hcl24 hcc24 hfr24 hM24 HP24
   refine hK.out _ _ ⟨cz BK1557 0,cz BK1557 1,((HB.out.cell (World.block_lt_of_cell? w _ hw1565_0)).trans hw1565_0),((HB.out.cell (World.block_lt_of_cell? w _ hw1565_1)).trans hw1565_1)⟩ (fun hHeld=>?_)
   clear hK K
   refine nq 30 ?_
   refine pq 10 31 2047 HT_ ?_
   refine last_ (i:=11) (N:=none) (ba 12 4095) rfl rfl (one_of HT_.out (by kernel_rfl)) (by decide) (fun K hK=>?_)
   refine skip_ (w1:=?_) (by rfl) rfl ?_ ?_
   rotate_left
   ·go_simp
    rfl
   refine hK.out _ _ ?_
   clear hK K
   refine done_ (done_of HT_.out (by kernel_rfl)) ?_
   have n0_:Aside0 (Kd.R k23 23 ((w23.setCell ⟨go19,((rd t1561 x17_1):Int).toNat * 2,none⟩ (.int .i64 t1568)).setCell ⟨go19,((rd t1561 x17_1):Int).toNat * 2 + 1,none⟩ (.int .i64 t1569)) w.heap.size (fun k_=>k_ ≠ gb1557) (.slice (some ⟨go19,0,none⟩) x5_1.length co19) y1570):=⟨by exact HQ24.out⟩
   have n1_:Aside0 (Kd.R (Kd.int .i64) 3 ((w23.setCell ⟨go19,((rd t1561 x17_1):Int).toNat * 2,none⟩ (.int .i64 t1568)).setCell ⟨go19,((rd t1561 x17_1):Int).toNat * 2 + 1,none⟩ (.int .i64 t1569)) w.heap.size (fun _=>True) (.slice (some ad1564) t1561.length co10) t1561):=⟨by exact Kd.R_mono (Kd.R_far (p:=⟨go19,((rd t1561 x17_1):Int).toNat * 2 + 1,none⟩) (Kd.R_far (p:=⟨go19,((rd t1561 x17_1):Int).toNat * 2,none⟩) (Kd.R_types HO_15.out GG19.out (by decide)) (fun _ hk=>hk.2) (.int .i64 t1568)) (fun _ hk=>hk.2) (.int .i64 t1569)) (fun _ hk=>trivial)⟩
   have n2_:Aside0 (((w23.setCell ⟨go19,((rd t1561 x17_1):Int).toNat * 2,none⟩ (.int .i64 t1568)).setCell ⟨go19,((rd t1561 x17_1):Int).toNat * 2 + 1,none⟩ (.int .i64 t1569)).heap[gb1557]? = some (.cells #[.int .i64 x1558000_1,.int .i64 x1558001_1] 23 (0,0))):=⟨by refine blk_far ?_ (by have h_:=Kd.R_away HO_5.out (fun _ hk=>hk);intro e_;exact h_ (by rw [e_];rfl)) _;refine blk_far ?_ (by have h_:=Kd.R_away HO_5.out (fun _ hk=>hk);intro e_;exact h_ (by rw [e_];rfl)) _;exact BK1557.out⟩
   have n3_:Aside0 (Below w.heap.size w ((w23.setCell ⟨go19,((rd t1561 x17_1):Int).toNat * 2,none⟩ (.int .i64 t1568)).setCell ⟨go19,((rd t1561 x17_1):Int).toNat * 2 + 1,none⟩ (.int .i64 t1569))):=⟨bl HB⟩
   generalize ((w23.setCell ⟨go19,((rd t1561 x17_1):Int).toNat * 2,none⟩ (.int .i64 t1568)).setCell ⟨go19,((rd t1561 x17_1):Int).toNat * 2 + 1,none⟩ (.int .i64 t1569)) = w25 at n0_ n1_ n2_ n3_ ⊢
   have HO_5:=n0_
   have HO_15:=n1_
   have BK1557:=n2_
   have HB:=n3_
   clear n0_ n1_ n2_ n3_
   try go_wp2
   replace HO_5:=rD HO_5
   replace HO_15:=rD HO_15
   replace BK1557:=kD BK1557
   replace HB:=bD HB
   have p1571:0 ≤ ((rd t1561 x17_1):Int):=of_decide_eq_true (by assumption)
   have q1571:(rd t1561 x17_1) < (y1570.length:Int):=(by have h_:((rd t1561 x17_1):Int) < ((x5_1.length:Int):Int):=of_decide_eq_true (by assumption);first | (have e_:=(Kd.R_reads' HO_5.out).1;omega) | simpa only [Ny1570.out,List.length_set] using h_)
   have ql1571:(((rd t1561 x17_1):Int) < ((x5_1.length:Int):Int)) = True:=eq_true (of_decide_eq_true (by assumption))
   obtain ⟨ad1571,e1571,hx1571_0,hx1571_1⟩:=at_T23 (Kd.R_reads' HO_5.out).2.2 (rd t1561 x17_1) p1571 q1571
   obtain rfl:(⟨go19,0,none⟩:Addr) = ad1571:=(by injection e1571)
   (first | simp only [add_plain] at hx1571_0 | simp only [add_at] at hx1571_0 | simp only [Addr.add,Nat.zero_add] at hx1571_0 | skip)
   (first | simp only [add_plain] at hx1571_1 | simp only [add_at] at hx1571_1 | simp only [Addr.add,Nat.zero_add] at hx1571_1 | skip)
   replace p1571:=eq_true p1571
   replace q1571:=eq_true q1571
   refine start_ (n:=7) (S:=fun w'=>w'.cell? ⟨gb1557,0,none⟩ = some (.int .i64 x1558000_1) ∧ w'.cell? ⟨gb1557,1,none⟩ = some (.int .i64 x1558001_1) ∧ w'.cell? ⟨go19,((rd t1561 x17_1)).toNat * 2,none⟩ = some (.int .i64 ((rd_T23 y1570 (rd t1561 x17_1)).f0)) ∧ w'.cell? ⟨go19,((rd t1561 x17_1)).toNat * 2 + 1,none⟩ = some (.int .i64 ((rd_T23 y1570 (rd t1561 x17_1)).f1))) (ds:=[6]) (ba 7 0) (by kernel_rfl) rfl rfl ⟨cz BK1557 0,cz BK1557 1,hx1571_0,hx1571_1⟩ (fun hHeld=>?_)
   generalize w25.drew = w26 at HO_5 HO_15 BK1557 HB hx1571_0 hx1571_1 hHeld ⊢
   refine pr 1 33 2 ?_
   refine pr 2 34 6 ?_
   refine pr 3 35 14 ?_
   refine tr 0 32 15 hHeld ?_
   refine tr 4 36 31 hHeld ?_
   refine os 5 37 63 (fun K hK=>?_)
   refine gq Try.func95 #[.agg #[.int .i64 x1558000_1,.int .i64 x1558001_1],.agg #[.int .i64 ((rd_T23 y1570 (rd t1561 x17_1)).f0),.int .i64 ((rd_T23 y1570 (rd t1561 x17_1)).f1)]] ?_
   with_reducible refine (shares_minus.calls k1 x1558000_1 x1558001_1 ((rd_T23 y1570 (rd t1561 x17_1)).f0) ((rd_T23 y1570 (rd t1561 x17_1)).f1) t1572 t1573 _ A20.out).mono ?_
   rintro e w27 ⟨rfl,hb⟩
   have HS2_:=(hb.cell (World.block_lt_of_cell? _ _ (hHeld.2.2.1))).trans (hHeld.2.2.1)
   have HS3_:=(hb.cell (World.block_lt_of_cell? _ _ (hHeld.2.2.2))).trans (hHeld.2.2.2)
   refine ⟨_,rfl,?_⟩
   replace HO_5:=rB HO_5 hb
   replace HO_15:=rB HO_15 hb
   replace BK1557:=kB BK1557 hb
   replace HB:=bB HB hb
   (try clear hb)
   refine hz hK (fun hHeld=>?_)
   clear hK K
   refine nq 37 ?_
   refine last_ (i:=6) (N:=none) (ba 7 127) rfl rfl (by kernel_rfl) (by decide) (fun K hK=>?_)
   have hs28:w27.cell? ⟨gb1557,0,none⟩ = some (.int .i64 x1558000_1):=cz BK1557 0
   have hfs28:=blk_frozen BK1557.out 0
   have hs29:w27.cell? ⟨gb1557,1,none⟩ = some (.int .i64 x1558001_1):=cz BK1557 1
   have hfs29:=blk_frozen BK1557.out 1
   refine skip_ (w1:=?_) (by rfl) rfl ?_ ?_
   rotate_left
   ·go_simp
    rfl
   refine hK.out _ _ ?_
   clear hK K
   refine done_ (by kernel_rfl) ?_
   try go_wp2
   go_roundg k1
   case measure=>have:=HK1.out;omega
   case rel=>exact ⟨(y1570),(wrap64 (x6_1 - 1)),(wrap64 (x17_1 + 1)),(t1572),(t1573),rfl,rfl,H',⟨by have:=HK1.out;omega⟩,⟨by exact Kd.R_mono (Kd.R_far (p:=⟨gb1557,1,none⟩) (Kd.R_far (p:=⟨gb1557,0,none⟩) (Kd.R_mono HO_5.out (fun k_ hk=>(⟨hk,hk⟩:_ ∧ k_ ≠ gb1557))) (fun _ hk=>hk.2) (.int .i64 t1572)) (fun _ hk=>hk.2) (.int .i64 t1573)) (fun _ hk=>hk.1)⟩,⟨by exact Kd.R_mono (Kd.R_far (p:=⟨gb1557,1,none⟩) (Kd.R_far (p:=⟨gb1557,0,none⟩) (Kd.R_types HO_15.out BK1557.out (by decide)) (fun _ hk=>hk.2) (.int .i64 t1572)) (fun _ hk=>hk.2) (.int .i64 t1573)) (fun _ hk=>trivial)⟩,⟨by refine blk_put (cs:=#[.int .i64 t1572,.int .i64 x1558001_1]) ?_ 1 _ rfl;refine blk_put (cs:=#[.int .i64 x1558000_1,.int .i64 x1558001_1]) ?_ 0 _ rfl;exact BK1557.out⟩,⟨bl HB⟩⟩
end Go.Proofs.Ytjohcjfmlhihbaa.G
namespace Go.Proofs.Ytjohcjfmlhihbaa.G
open Go.RowKit Go.Proofs.YtjohcjfmlhihbaaW.PrintWords Go.Proofs.YtjohcjfmlhihbaaW.PrintLast Go.Proofs.YtjohcjfmlhihbaaW.PrintMore
set_option maxHeartbeats 8000000
set_option maxRecDepth 100000
attribute [local go_sem] cond_true cond_false fld23_0 fld23_1 fld45_0 fld45_1 fld109_0 fld109_1 fld94_0 fld94_1 max2_int min2_int max_two min_two max_three min_three max_four min_four   -- for this text's walks alone
def shares_claims_awards.f (k:Nat) (l0_0:List Int) (a0_1:Int):Option ((List (S23))):=(each_whole.f k l0_0 a0_1).bind fun t1582=>((shares_whole.f a0_1).bind fun bt1585=>((shares_equal.f k t1582 bt1585.1 bt1585.2).bind fun t1587=>(some t1587)))
theorem shares_claims_awards.mono:∀ a0 a1 k,LeO (shares_claims_awards.f k a0 a1) (shares_claims_awards.f (k + 1) a0 a1):=by
 intro a0 a1 k
 unfold shares_claims_awards.f
 repeat' first
   | (with_reducible exact each_whole.mono _ _ _)
   | (with_reducible exact shares_equal.mono _ _ _ _)
   | (with_reducible exact LeO.refl _)
   | (with_reducible exact LeO.none _)
   | (with_reducible refine LeO.ite ?_ ?_)
   | (with_reducible refine LeO.bind ?_ (fun _=>?_))
   | exact each_whole.mono _ _ _
   | exact shares_equal.mono _ _ _ _
   | exact LeO.none _
   | refine LeO.ite ?_ ?_
   | refine LeO.bind ?_ (fun _=>?_)
theorem shares_claims_awards.calls (k:Nat) (A0_0:Option Addr) (c0_0:Nat) (l0_0:List Int) (a0_1:Int) (r:List (S23)) (w:World) (hr0_0:Kd.C (Kd.int .i64) w A0_0 l0_0.length l0_0) (hc0_0:l0_0.length ≤ c0_0) (h:shares_claims_awards.f k l0_0 a0_1 = some r) :
  Calls Try.prog 98 #[.agg #[.slice A0_0 l0_0.length c0_0,.int .i64 a0_1]] w fun e w'=>∃ v0_:Value,e = .returned (v0_) ∧ Kd.R k23 23 w' w.heap.size (fun _=>True) v0_ r ∧ Below w.heap.size w w':=by
 have hu94:=Try.underlying94
 have HR0_0:=A_ hr0_0
 have HC0_0:=A_ hc0_0
 clear hr0_0 hc0_0
 have HB:=A_ (Below.refl w.heap.size w)
 have H:((each_whole.f k l0_0 a0_1).bind fun t1582=>((shares_whole.f a0_1).bind fun bt1585=>((shares_equal.f k t1582 bt1585.1 bt1585.2).bind fun t1587=>(some t1587)))) = some r:=h
 clear h
 replace H:=Option.bind_eq_some_iff.mp H
 obtain ⟨t1582,A20,H⟩:=H
 replace H:((shares_whole.f a0_1).bind fun bt1585=>((shares_equal.f k t1582 bt1585.1 bt1585.2).bind fun t1587=>(some t1587))) = some r:=H
 have A2:=A_ A20
 clear A20
 replace H:=Option.bind_eq_some_iff.mp H
 obtain ⟨⟨t1585,t1586⟩,A30,H⟩:=H
 dsimp only at H
 have A3:=A_ A30
 clear A30
 replace H:=Option.bind_eq_some_iff.mp H
 obtain ⟨t1587,A40,H⟩:=H
 replace H:(some t1587) = some r:=H
 have A4:=A_ A40
 clear A40
 obtain rfl:=Option.some.inj H
 go_enter Try.func98,Try.ntmps98
 try go_wp2_with (first | ((with_reducible refine gate_dst (N:=1) rfl ?_);refine box_event ?hg (N:=1) ?hd (cs:=#[.slice A0_0 l0_0.length c0_0,.int .i64 a0_1]) (t:=94) ?hr ?_;(case hd=>rfl);(case hg=>rfl);(case hr=>first | (go_simp;done) | (go_simp;rfl));intro gb1581 hg w5 hbox hb;have BK1581:=A_ hbox;have GW1581:=gw hg HB;have GE1581:=GW1581;replace HB:=bB HB hb;clear hb hbox hg))
 replace BK1581:=A_ (blk_drew BK1581.out)
 replace HB:=A_ (below_drew1 HB.out)
 refine start_ (n:=7) (S:=fun w'=>w'.cell? ⟨gb1581,0,none⟩ = some (.slice A0_0 l0_0.length c0_0) ∧ w'.cell? ⟨gb1581,1,none⟩ = some (.int .i64 a0_1)) (ds:=[]) (ba 7 0) (by kernel_rfl) rfl rfl ⟨cz BK1581 0,cz BK1581 1⟩ (fun hHeld=>?_)
 generalize w5.drew = w6 at BK1581 HB hHeld ⊢
 refine pr 2 5 4 ?_
 refine tr 0 3 5 hHeld ?_
 refine tr 3 6 13 hHeld ?_
 refine os 1 4 15 (fun K hK=>?_)
 refine gq Try.func120 #[.agg #[.slice A0_0 l0_0.length c0_0,.int .i64 a0_1],.func (.func 64) #[] #[]] ?_
 with_reducible refine (each_whole.calls k _ _ l0_0 a0_1 t1582 _ ?side1 ?side2 A2.out).mono ?_
 (case side1=>exact cB HR0_0 HB)
 (case side2=>exact HC0_0.out)
 rintro e w7 ⟨v1583,rfl,ho0,hb⟩
 refine ⟨_,rfl,?_⟩
 have HO1584:=A_ (Kd.R_lower ho0 (below_size HB.out))
 replace BK1581:=kB BK1581 hb
 replace HB:=bB HB hb
 (try clear hb)
 (try clear ho0)
 refine hK.out _ _ ⟨cz BK1581 0,cz BK1581 1⟩ (fun hHeld=>?_)
 clear hK K
 refine nq 4 ?_
 refine os 4 7 31 (fun K hK=>?_)
 refine gq Try.func64 #[.int .i64 a0_1] ?_
 with_reducible refine (shares_whole.calls a0_1 t1585 t1586 _ A3.out).mono ?_
 rintro e w8 ⟨rfl,hb⟩
 refine ⟨_,rfl,?_⟩
 replace HO1584:=rB HO1584 hb
 replace BK1581:=kB BK1581 hb
 replace HB:=bB HB hb
 (try clear hb)
 obtain ⟨Ao9,co9,eo9⟩:=Kd.R_slice HO1584.out
 (first | subst eo9 | (injection eo9 with f1_ f2_ f3_;have f4_:=f1_.symm;have f5_:=f3_.symm;clear f1_ f2_ f3_;subst f4_;subst f5_))
 refine hK.out _ _ ⟨cz BK1581 0,cz BK1581 1⟩ (fun hHeld=>?_)
 clear hK K
 refine nq 7 ?_
 refine os 5 8 63 (fun K hK=>?_)
 refine gq Try.func122 #[.slice Ao9 t1582.length co9,.agg #[.int .i64 t1585,.int .i64 t1586]] ?_
 with_reducible refine (shares_equal.calls k _ _ t1582 t1585 t1586 t1587 _ ?side1 ?side2 A4.out).mono ?_
 (case side1=>repeat (first | exact (Kd.R_reads' HO1584.out).2.2 | (with_reducible refine Kd.C_alloc ?_ _) | (with_reducible refine Kd.C_drewN ?_ _) | (with_reducible refine Kd.C_drew ?_)))
 (case side2=>exact (Kd.R_reads' HO1584.out).2.1)
 rintro e w10 ⟨v1588,rfl,ho0,hb⟩
 refine ⟨_,rfl,?_⟩
 have HO1589:=A_ (Kd.R_lower (Kd.R_new' ho0 (Kd.R_lt HO1584.out)) (below_size HB.out))
 replace HO1584:=A_ (Kd.R_elder' HO1584.out (Kd.R_base ho0) hb)
 replace BK1581:=kB BK1581 hb
 replace HB:=bB HB hb
 (try clear hb)
 (try clear ho0)
 refine hK.out _ _ ⟨cz BK1581 0,cz BK1581 1⟩ (fun hHeld=>?_)
 clear hK K
 refine nq 8 ?_
 refine pr 6 2 127 ?_
 refine done_ (by kernel_rfl) ?_
 try go_wp2
 go_ret
 exact ⟨_,rfl,by (with_reducible repeat (first | apply Kd.R_alloc | apply Kd.R_drewN | apply Kd.R_drew));exact Kd.R_mono HO1589.out (fun _ hk=>trivial),by repeat (first | (with_reducible first | exact HB.out | apply below_alloc | apply pw_below_drewN | apply below_drew1 | refine below_set ?_ GE1581.out) | exact HB.out)⟩
end Go.Proofs.Ytjohcjfmlhihbaa.G
namespace Go.Proofs.Ytjohcjfmlhihbaa.G
open Go.RowKit Go.Proofs.YtjohcjfmlhihbaaW.PrintWords Go.Proofs.YtjohcjfmlhihbaaW.PrintLast Go.Proofs.YtjohcjfmlhihbaaW.PrintMore
set_option maxHeartbeats 8000000
set_option maxRecDepth 100000
attribute [local go_sem] cond_true cond_false fld23_0 fld23_1 fld45_0 fld45_1 fld109_0 fld109_1 fld94_0 fld94_1 max2_int min2_int max_two min_two max_three min_three max_four min_four
def shares_claims_losses.l0:Nat → List (S23) → List (S23) → List Int → Int → Int → Option ((List (S23)))
 | 0,_,_,_,_,_=>none
 | k + 1,x3,x4,x18,x19,x20=>if x20 < x19 then (if 0 ≤ x20 then (if x20 < (x18.length:Int) then ((shares_whole.f (rd x18 x20)).bind fun bt1601=>(if x20 < (x3.length:Int) then ((shares_minus.f k bt1601.1 bt1601.2 ((rd_T23 x3 x20).f0) ((rd_T23 x3 x20).f1)).bind fun bt1604=>(if x4.length < 8796093022208 then (shares_claims_losses.l0 k x3 (x4 ++ [(⟨bt1604.1,bt1604.2⟩:S23)]) x18 x19 (wrap64 (x20 + 1))) else (none))) else (none))) else (none)) else (none)) else (some x4)
def shares_claims_losses.f (k:Nat) (l0_0:List Int) (a0_1:Int):Option ((List (S23))):=(each_whole.f k l0_0 a0_1).bind fun t1591=>((shares_total.f k l0_0).bind fun t1594=>((shares_whole.f (wrap64 (t1594 - a0_1))).bind fun bt1595=>((shares_equal.f k t1591 bt1595.1 bt1595.2).bind fun t1597=>(shares_claims_losses.l0 k t1597 ([]:List (S23)) l0_0 (l0_0.length:Int) 0))))
theorem shares_claims_losses.mono_l:∀ k,(∀ y0 y1 y2 y3 y4,LeO (shares_claims_losses.l0 k y0 y1 y2 y3 y4) (shares_claims_losses.l0 (k + 1) y0 y1 y2 y3 y4))
 | 0=>fun _ _ _ _ _ r h=>by simp [shares_claims_losses.l0] at h
 | k + 1=>by
  have ih0:=shares_claims_losses.mono_l k
  intro y0 y1 y2 y3 y4
  unfold shares_claims_losses.l0
  repeat' first
  | (with_reducible first | exact ih0 _ _ _ _ _ | exact each_whole.mono _ _ _ | exact shares_equal.mono _ _ _ _ | exact shares_minus.mono _ _ _ _ _ | exact shares_total.mono _ _ | exact LeO.refl _ | exact LeO.none _ | refine LeO.ite ?_ ?_ | refine LeO.bind ?_ (fun _=>?_))
  | exact LeO.none _ | refine LeO.ite ?_ ?_ | refine LeO.bind ?_ (fun _=>?_)
theorem shares_claims_losses.mono:∀ a0 a1 k,LeO (shares_claims_losses.f k a0 a1) (shares_claims_losses.f (k + 1) a0 a1):=by
 intro a0 a1 k
 have ih0:=shares_claims_losses.mono_l k
 unfold shares_claims_losses.f
 repeat' first
   | (with_reducible first | exact ih0 _ _ _ _ _ | exact each_whole.mono _ _ _ | exact shares_equal.mono _ _ _ _ | exact shares_minus.mono _ _ _ _ _ | exact shares_total.mono _ _ | exact LeO.refl _ | exact LeO.none _ | refine LeO.ite ?_ ?_ | refine LeO.bind ?_ (fun _=>?_))
   | exact LeO.none _ | refine LeO.ite ?_ ?_ | refine LeO.bind ?_ (fun _=>?_)
def shares_claims_losses.T1:Bool × List (List Nat × List Nat):=(true,[([],[]),([0],[0]),([],[]),([2],[2]),([3,1],[3]),([],[]),([5],[5]),([4,6],[4,6]),([7,4],[7]),([1,8,8],[1,8]),([9,9,0,1,2,3,4,5,6,7,8,9],[9])])
def shares_claims_losses.B1:List Nat:=[0,1,0,4,15,0,32,127,255,511,1023]
theorem shares_claims_losses.tab1:rtab .any (opsOf Try.f99 1) = shares_claims_losses.T1:=by kernel_rfl
theorem shares_claims_losses.bits1:waitsOk shares_claims_losses.T1.2 shares_claims_losses.B1 = true:=by kernel_rfl
def shares_claims_losses.T6:Bool × List (List Nat × List Nat):=(true,[([],[]),([],[]),([1],[1]),([],[]),([],[]),([3,4],[3,4]),([5],[5]),([2,6,2],[2,6]),([7],[7]),([0,8,7],[0,8]),([9,9,0,1,2,3,4,5,6,7,8,9],[0,9])])
def shares_claims_losses.B6:List Nat:=[0,0,2,0,0,24,56,126,254,511,1023]
theorem shares_claims_losses.tab6:rtab .any (opsOf Try.f99 6) = shares_claims_losses.T6:=by kernel_rfl
theorem shares_claims_losses.bits6:waitsOk shares_claims_losses.T6.2 shares_claims_losses.B6 = true:=by kernel_rfl
theorem shares_claims_losses.calls (k:Nat) (A0_0:Option Addr) (c0_0:Nat) (l0_0:List Int) (a0_1:Int) (r:List (S23)) (w:World) (hr0_0:Kd.C (Kd.int .i64) w A0_0 l0_0.length l0_0) (hc0_0:l0_0.length ≤ c0_0) (h:shares_claims_losses.f k l0_0 a0_1 = some r) :
  Calls Try.prog 99 #[.agg #[.slice A0_0 l0_0.length c0_0,.int .i64 a0_1]] w fun e w'=>∃ v0_:Value,e = .returned (v0_) ∧ Kd.R k23 23 w' w.heap.size (fun _=>True) v0_ r ∧ Below w.heap.size w w':=by
 have hu94:=Try.underlying94
 have hu23:=Try.underlying23
 have HR0_0:=A_ hr0_0
 have HC0_0:=A_ hc0_0
 clear hr0_0 hc0_0
 have HB:=A_ (Below.refl w.heap.size w)
 have H:((each_whole.f k l0_0 a0_1).bind fun t1591=>((shares_total.f k l0_0).bind fun t1594=>((shares_whole.f (wrap64 (t1594 - a0_1))).bind fun bt1595=>((shares_equal.f k t1591 bt1595.1 bt1595.2).bind fun t1597=>(shares_claims_losses.l0 k t1597 ([]:List (S23)) l0_0 (l0_0.length:Int) 0))))) = some r:=h
 clear h
 replace H:=Option.bind_eq_some_iff.mp H
 obtain ⟨t1591,A20,H⟩:=H
 replace H:((shares_total.f k l0_0).bind fun t1594=>((shares_whole.f (wrap64 (t1594 - a0_1))).bind fun bt1595=>((shares_equal.f k t1591 bt1595.1 bt1595.2).bind fun t1597=>(shares_claims_losses.l0 k t1597 ([]:List (S23)) l0_0 (l0_0.length:Int) 0)))) = some r:=H
 have A2:=A_ A20
 clear A20
 replace H:=Option.bind_eq_some_iff.mp H
 obtain ⟨t1594,A30,H⟩:=H
 replace H:((shares_whole.f (wrap64 (t1594 - a0_1))).bind fun bt1595=>((shares_equal.f k t1591 bt1595.1 bt1595.2).bind fun t1597=>(shares_claims_losses.l0 k t1597 ([]:List (S23)) l0_0 (l0_0.length:Int) 0))) = some r:=H
 have A3:=A_ A30
 clear A30
 replace H:=Option.bind_eq_some_iff.mp H
 obtain ⟨⟨t1595,t1596⟩,A40,H⟩:=H
 dsimp only at H
 have A4:=A_ A40
 clear A40
 replace H:=Option.bind_eq_some_iff.mp H
 obtain ⟨t1597,A50,H⟩:=H
 replace H:(shares_claims_losses.l0 k t1597 ([]:List (S23)) l0_0 (l0_0.length:Int) 0) = some r:=H
 have A5:=A_ A50
 clear A50
 have H':=A_ H
 clear H
 go_enter Try.func99,Try.ntmps99
 try go_wp2_with (first | ((with_reducible refine gate_dst (N:=1) rfl ?_);refine bx 1 #[.slice A0_0 l0_0.length c0_0,.int .i64 a0_1] 94 ?_;intro gb1590 hg w6 hbox hb;have BK1590:=A_ hbox;have GW1590:=gw hg HB;have GE1590:=GW1590;replace HB:=bB HB hb;clear hb hbox hg))
 replace BK1590:=kD BK1590
 replace HB:=bD HB
 refine st 11 (fun w'=>w'.cell? ⟨gb1590,0,none⟩ = some (.slice A0_0 l0_0.length c0_0) ∧ w'.cell? ⟨gb1590,1,none⟩ = some (.int .i64 a0_1)) [] shares_claims_losses.tab1 shares_claims_losses.bits1 (fun hHeld HT_ HW_=>?_)
 generalize w6.drew = w7 at BK1590 HB hHeld ⊢
 refine pq 2 9 4 HT_ ?_
 refine pq 5 12 36 HT_ ?_
 refine tq 0 7 37 HT_ HW_ hHeld ?_
 refine tq 3 10 45 HT_ HW_ hHeld ?_
 refine tq 6 13 109 HT_ HW_ hHeld ?_
 refine oq 1 8 111 HT_ (fun K hK=>?_)
 refine gq Try.func120 #[.agg #[.slice A0_0 l0_0.length c0_0,.int .i64 a0_1],.func (.func 64) #[] #[]] ?_
 with_reducible refine (each_whole.calls k _ _ l0_0 a0_1 t1591 _ ?side1 ?side2 A2.out).mono ?_
 (case side1=>exact cB HR0_0 HB)
 (case side2=>exact HC0_0.out)
 rintro e w8 ⟨v1592,rfl,ho0,hb⟩
 refine ⟨_,rfl,?_⟩
 have HO1593:=A_ (Kd.R_lower ho0 (below_size HB.out))
 replace BK1590:=kB BK1590 hb
 replace HB:=bB HB hb
 (try clear hb)
 refine hz hK (fun hHeld=>?_)
 clear hK K
 refine nq 8 ?_
 refine oq 4 11 127 HT_ (fun K hK=>?_)
 refine gq Try.func93 #[.slice A0_0 l0_0.length c0_0] ?_
 with_reducible refine (shares_total.calls k _ _ l0_0 t1594 _ ?side1 ?side2 A3.out).mono ?_
 (case side1=>exact cB HR0_0 HB)
 (case side2=>exact HC0_0.out)
 rintro e w' ⟨rfl,⟨nd,rfl⟩⟩
 refine ⟨_,rfl,?_⟩
 refine hz hK (fun hHeld=>?_)
 clear hK K
 refine nq 11 ?_
 refine pq 7 14 255 HT_ ?_
 refine oq 8 15 511 HT_ (fun K hK=>?_)
 refine gq Try.func64 #[.int .i64 (wrap64 (t1594 - a0_1))] ?_
 with_reducible refine (shares_whole.calls (wrap64 (t1594 - a0_1)) t1595 t1596 _ A4.out).mono ?_
 rintro e w9 ⟨rfl,hb⟩
 refine ⟨_,rfl,?_⟩
 replace HO1593:=rB HO1593 hb
 replace BK1590:=kB BK1590 hb
 replace HB:=bB HB hb
 (try clear hb)
 obtain ⟨Ao10,co10,eo10⟩:=Kd.R_slice HO1593.out
 (first | subst eo10 | (injection eo10 with f1_ f2_ f3_;have f4_:=f1_.symm;have f5_:=f3_.symm;clear f1_ f2_ f3_;subst f4_;subst f5_))
 refine hz hK (fun hHeld=>?_)
 clear hK K
 refine nq 15 ?_
 refine oq 9 16 1023 HT_ (fun K hK=>?_)
 refine gq Try.func122 #[.slice Ao10 t1591.length co10,.agg #[.int .i64 t1595,.int .i64 t1596]] ?_
 with_reducible refine (shares_equal.calls k _ _ t1591 t1595 t1596 t1597 _ ?side1 ?side2 A5.out).mono ?_
 (case side1=>repeat (first | exact (Kd.R_reads' HO1593.out).2.2 | (with_reducible refine Kd.C_alloc ?_ _) | (with_reducible refine Kd.C_drewN ?_ _) | (with_reducible refine Kd.C_drew ?_)))
 (case side2=>exact (Kd.R_reads' HO1593.out).2.1)
 rintro e w11 ⟨v1598,rfl,ho0,hb⟩
 refine ⟨_,rfl,?_⟩
 have HO1599:=A_ (Kd.R_lower (Kd.R_new' ho0 (Kd.R_lt HO1593.out)) (below_size HB.out))
 replace HO1593:=A_ (Kd.R_elder' HO1593.out (Kd.R_base ho0) hb)
 replace BK1590:=kB BK1590 hb
 replace HB:=bB HB hb
 (try clear hb)
 refine hz hK (fun hHeld=>?_)
 clear hK K
 refine nq 16 ?_
 refine pq 10 3 2047 HT_ ?_
 refine done_ (done_of HT_.out (by kernel_rfl)) ?_
 have hcz12_0:w11.cell? ⟨gb1590,0,none⟩ = some (.slice A0_0 l0_0.length c0_0):=cz BK1590 0
 have hcz12_1:w11.cell? ⟨gb1590,1,none⟩ = some (.int .i64 a0_1):=cz BK1590 1
 have hfz12_0:=blk_frozen BK1590.out 0
 have hfz12_1:=blk_frozen BK1590.out 1
 try go_wp2
 go_loopg [4,20] k (fun kq v4 v20 w'=>∃ (x4_1:List (S23)) (x20_1:Int),v20 = .int .i64 x20_1 ∧ Aside0 (shares_claims_losses.l0 kq t1597 x4_1 l0_0 (l0_0.length:Int) x20_1 = some r) ∧ Aside0 (kq ≤ k) ∧ Aside0 (Kd.R k23 23 w' w.heap.size (fun k_=>some k_ ≠ (v4:Value).ownBlock) v1598 t1597) ∧ Aside0 (Kd.R k23 23 w' w.heap.size (fun k_=>some k_ ≠ (v1598:Value).ownBlock) v4 x4_1) ∧ Aside0 (w'.heap[gb1590]? = some (.cells #[(.slice A0_0 l0_0.length c0_0),.int .i64 a0_1] 94 (0,0))) ∧ Aside0 (Below w.heap.size w w'))
 case atStart=>exact ⟨(([]:List (S23))),(0),rfl,H',⟨Nat.le_refl _⟩,⟨by (with_reducible repeat (first | apply Kd.R_alloc | apply Kd.R_drewN | apply Kd.R_drew));exact Kd.R_mono HO1599.out (fun _ hk=>(by simp [Value.ownBlock]))⟩,⟨by first | exact Kd.R_nil _ _ _ _ _ | exact Kd.N_nil _ _ _ _ _ | exact Kd.V_nil _ _ _ _ _ | exact Kd.Q_nil _ _ _ _ _ | exact Kd.S_nil _ _ _ _ _⟩,⟨by (with_reducible repeat (first | refine blk_drewN ?_ _ | refine blk_drew ?_ | refine blk_alloc ?_ _));exact BK1590.out⟩,⟨bl HB⟩⟩
 case round =>
  clear H'
  obtain ⟨x4_1,x20_1,rfl,HA,HK1,HO_3,HO_4,BK1590,HB⟩:=hrel
  cases gk with
  | zero=>exact absurd HA.out (by simp [shares_claims_losses.l0])
  | succ k1 =>
   have H:=HA.out
   clear HA
   simp only [shares_claims_losses.l0] at H
   by_cases c13:x20_1 < (l0_0.length:Int)
   case neg =>
    rw [if_neg c13] at H
    have c13b0:=decide_eq_false c13
    clear c13
    obtain rfl:=Option.some.inj H
    go_wp2
    go_ret
    exact ⟨_,rfl,by (with_reducible repeat (first | apply Kd.R_alloc | apply Kd.R_drewN | apply Kd.R_drew));exact Kd.R_mono HO_4.out (fun _ hk=>trivial),bl HB⟩
   rw [if_pos c13] at H
   have c13b0:=decide_eq_true c13
   clear c13
   replace H:=gd H
   obtain ⟨c14,H⟩:=H
   have c14b0:=decide_eq_true c14
   clear c14
   replace H:=gd H
   obtain ⟨c15,H⟩:=H
   have c15b0:=decide_eq_true c15
   clear c15
   replace H:=Option.bind_eq_some_iff.mp H
   obtain ⟨⟨t1601,t1602⟩,A160,H⟩:=H
   dsimp only at H
   have A16:=A_ A160
   clear A160
   replace H:=gd H
   obtain ⟨c17,H⟩:=H
   have c17b0:=decide_eq_true c17
   clear c17
   replace H:=Option.bind_eq_some_iff.mp H
   obtain ⟨⟨t1604,t1605⟩,A180,H⟩:=H
   dsimp only at H
   have A18:=A_ A180
   clear A180
   replace H:=gd H
   obtain ⟨c19,H⟩:=H
   have LMc19:=A_ c19
   clear c19
   obtain ⟨y1606,hy1606⟩:∃ y_:List (S23),y_ = (x4_1 ++ [(⟨t1604,t1605⟩:S23)]):=⟨_,rfl⟩
   replace H:(shares_claims_losses.l0 k1 t1597 y1606 l0_0 (l0_0.length:Int) (wrap64 (x20_1 + 1))) = some r:=by first | (rw [hy1606];with_reducible exact H) | (have H2_:=(Option.bind_some _ _).symm.trans H;rw [hy1606];with_reducible exact H2_) | (have H2_:=(Option.bind_some _ _).symm.trans H;with_reducible exact H2_) | with_reducible exact H | (rw [hy1606];exact H) | exact H
   have Ny1606:=A_ hy1606
   clear hy1606
   have H':=A_ H
   clear H
   have p1600:0 ≤ (x20_1:Int):=of_decide_eq_true (by assumption)
   have q1600:x20_1 < (l0_0.length:Int):=of_decide_eq_true (by assumption)
   obtain ⟨ad1600,e1600,hx1600_0⟩:=Kd.at_int HR0_0.out x20_1 p1600 q1600
   cases e1600
   replace hx1600_0:=(HB.out.cell (World.block_lt_of_cell? w _ hx1600_0)).trans hx1600_0
   replace p1600:=eq_true p1600
   replace q1600:=eq_true q1600
   try go_wp2
   replace HO_3:=rD HO_3
   replace HO_4:=rD HO_4
   replace BK1590:=kD BK1590
   replace HB:=bD HB
   obtain ⟨Ao21,co21,eo21⟩:=Kd.R_slice HO_3.out
   (first | subst eo21 | (injection eo21 with f1_ f2_ f3_;have f4_:=f1_.symm;have f5_:=f3_.symm;clear f1_ f2_ f3_;subst f4_;subst f5_))
   have p1603:0 ≤ (x20_1:Int):=of_decide_eq_true (by assumption)
   have q1603:x20_1 < (t1597.length:Int):=of_decide_eq_true (by assumption)
   obtain ⟨ad1603,e1603,hx1603_0,hx1603_1⟩:=at_T23 (Kd.R_reads' HO_3.out).2.2 x20_1 p1603 q1603
   cases e1603
   replace p1603:=eq_true p1603
   replace q1603:=eq_true q1603
   refine start_ (n:=11) (S:=fun w'=>w'.cell? (ad1603.add ((x20_1).toNat * 2)) = some (.int .i64 ((rd_T23 t1597 x20_1).f0)) ∧ w'.cell? ⟨(ad1603.add ((x20_1).toNat * 2)).block,(ad1603.add ((x20_1).toNat * 2)).off + 1,none⟩ = some (.int .i64 ((rd_T23 t1597 x20_1).f1))) (ds:=[8,9]) (ba 11 0) (by kernel_rfl) rfl rfl ⟨hx1603_0,hx1603_1⟩ (fun hHeld=>?_);refine with_tabW shares_claims_losses.tab6 shares_claims_losses.bits6 (fun HT_ HW_=>?_)
   generalize wr.drew = w20 at HO_3 HO_4 BK1590 HB hx1603_0 hx1603_1 hHeld ⊢
   refine pq 0 25 1 HT_ ?_
   refine pq 1 26 3 HT_ ?_
   refine pq 3 28 11 HT_ ?_
   refine pq 4 29 27 HT_ ?_
   refine pq 5 30 59 HT_ ?_
   refine tq 6 31 123 HT_ HW_ hHeld ?_
   refine oq 2 27 127 HT_ (fun K hK=>?_)
   refine gq Try.func64 #[.int .i64 (rd l0_0 x20_1)] ?_
   with_reducible refine (shares_whole.calls (rd l0_0 x20_1) t1601 t1602 _ A16.out).mono ?_
   rintro e w22 ⟨rfl,hb⟩
   have HS0_:=(hb.cell (World.block_lt_of_cell? _ _ (hHeld.1))).trans (hHeld.1)
   have HS1_:=(hb.cell (World.block_lt_of_cell? _ _ (hHeld.2))).trans (hHeld.2)
   refine ⟨_,rfl,?_⟩
   replace HO_3:=rB HO_3 hb
   replace HO_4:=rB HO_4 hb
   replace BK1590:=kB BK1590 hb
   replace HB:=bB HB hb
   (try clear hb)
   refine hz hK (fun hHeld=>?_)
   clear hK K
   refine nq 27 ?_
   refine oq 7 32 255 HT_ (fun K hK=>?_)
   refine gq Try.func95 #[.agg #[.int .i64 t1601,.int .i64 t1602],.agg #[.int .i64 ((rd_T23 t1597 x20_1).f0),.int .i64 ((rd_T23 t1597 x20_1).f1)]] ?_
   with_reducible refine (shares_minus.calls k1 t1601 t1602 ((rd_T23 t1597 x20_1).f0) ((rd_T23 t1597 x20_1).f1) t1604 t1605 _ A18.out).mono ?_
   rintro e w23 ⟨rfl,hb⟩
   have HS0_:=(hb.cell (World.block_lt_of_cell? _ _ (hHeld.1))).trans (hHeld.1)
   have HS1_:=(hb.cell (World.block_lt_of_cell? _ _ (hHeld.2))).trans (hHeld.2)
   refine ⟨_,rfl,?_⟩
   replace HO_3:=rB HO_3 hb
   replace HO_4:=rB HO_4 hb
   replace BK1590:=kB BK1590 hb
   replace HB:=bB HB hb
   (try clear hb)
   refine hz hK (fun hHeld=>?_)
   clear hK K
   refine nq 32 ?_
   refine last_ (i:=8) (N:=some 33) (ba 11 511) rfl rfl (one_of HT_.out (by kernel_rfl)) (by decide) (fun K hK=>?_)
   refine value_ (w1:=?_) (v:=?_) (by rfl) rfl ?_ ?_
   rotate_left 2
   ·go_simp
    constructor
    ·rfl
    rfl
   refine hK.out _ _ ?_
   clear hK K
   refine nq 33 ?_
   refine last_ (i:=9) (N:=some 34) (ba 11 1023) rfl rfl (one_of HT_.out (by kernel_rfl)) (by decide) (fun K hK=>?_)
   refine Kd.R_append_step k23 (w0:=w) w.heap.size (by rfl) (.tmp 25) (.tmp 33) 35 23 (.agg #[(.int .i64 0),(.int .i64 0)]) 16 rfl Try.underlying35 info23 rfl (by decide) (by omega) u4 x4_1 (⟨t1604,t1605⟩:S23) [.int .i64 t1604,.int .i64 t1605] (fun k_=>some k_ ≠ (.slice (some ad1603) t1597.length co21:Value).ownBlock) (fun _=>False) rfl rfl ?aP (fun _ hk=>hk.elim) ?aF ?aO ?aB ?aS ?aL ?_
   (case aP=>exact k23_mkM _ _ _ (⟨t1604,t1605⟩:S23))
   (case aB=>exact HB.out)
   (case aF=>exact (fun k_ hk=>Kd.fresh' (Kd.R_lt HO_3.out) k_ hk))
   (case aO=>exact HO_4.out)
   (case aS=>exact (below_size HB.out))
   (case aL=>have:=LMc19.out;omega)
   intro v1607 w24 ho hb hg hat
   rw [← Ny1606.out] at ho
   have HO1608:=A_ ho
   replace HO_3:=A_ (Kd.R_after (ok:=(fun _=>True)) (by (with_reducible repeat (first | apply Kd.R_alloc | apply Kd.R_drewN | apply Kd.R_drew));exact Kd.R_mono HO_3.out (fun _ hk=>⟨trivial,hk⟩)) hg hat)
   replace BK1590:=A_ (blk_grown (g:=gb1590) (o:=.cells #[.slice (some ad1600) l0_0.length c0_0,.int .i64 a0_1] 94 (0,0)) BK1590.out hg (Kd.R_ne HO_4.out BK1590.out (by decide)))
   replace HB:=A_ hb
   clear HO_4 ho hb hg hat
   refine hK.out _ _ ?_
   clear hK K
   refine nq 34 ?_
   refine pq 10 4 2047 HT_ ?_
   refine done_ (done_of HT_.out (by kernel_rfl)) ?_
   try go_wp2
   go_roundg k1
   case measure=>have:=HK1.out;omega
   case rel=>exact ⟨(y1606),(wrap64 (x20_1 + 1)),rfl,H',⟨by have:=HK1.out;omega⟩,⟨by (with_reducible repeat (first | apply Kd.R_alloc | apply Kd.R_drewN | apply Kd.R_drew));exact Kd.R_mono HO_3.out (fun _ hk=>hk.2)⟩,⟨by (with_reducible repeat (first | apply Kd.R_alloc | apply Kd.R_drewN | apply Kd.R_drew));exact HO1608.out⟩,⟨by (with_reducible repeat (first | refine blk_drewN ?_ _ | refine blk_drew ?_ | refine blk_alloc ?_ _));exact BK1590.out⟩,⟨bl HB⟩⟩
end Go.Proofs.Ytjohcjfmlhihbaa.G
namespace Go.Proofs.Ytjohcjfmlhihbaa.G
open Go.RowKit Go.Proofs.YtjohcjfmlhihbaaW.PrintWords Go.Proofs.YtjohcjfmlhihbaaW.PrintLast Go.Proofs.YtjohcjfmlhihbaaW.PrintMore
set_option maxHeartbeats 8000000
set_option maxRecDepth 100000
attribute [local go_sem] cond_true cond_false fld23_0 fld23_1 fld45_0 fld45_1 fld109_0 fld109_1 fld94_0 fld94_1 max2_int min2_int max_two min_two max_three min_three max_four min_four   -- for this text's walks alone
def shares_claims_halves_1.f (k:Nat) (a0:Int):Option (Int × Int):=(shares_frac.f k a0 2).bind fun bt137=>(some (bt137.1,bt137.2))
theorem shares_claims_halves_1.mono:∀ a0 k,LeO (shares_claims_halves_1.f k a0) (shares_claims_halves_1.f (k + 1) a0):=by
 intro a0 k
 unfold shares_claims_halves_1.f
 repeat' first
   | (with_reducible exact shares_frac.mono _ _ _)
   | (with_reducible exact LeO.refl _)
   | (with_reducible exact LeO.none _)
   | (with_reducible refine LeO.ite ?_ ?_)
   | (with_reducible refine LeO.bind ?_ (fun _=>?_))
   | exact shares_frac.mono _ _ _
   | exact LeO.none _
   | refine LeO.ite ?_ ?_
   | refine LeO.bind ?_ (fun _=>?_)
theorem shares_claims_halves_1.calls (k:Nat) (a0:Int) (r1:Int) (r2:Int) (w:World) (h:shares_claims_halves_1.f k a0 = some (r1,r2)) :
  Calls Try.prog 130 #[.int .i64 a0] w fun e w'=>e = .returned (.agg #[.int .i64 r1,.int .i64 r2]) ∧ Below w.heap.size w w':=by
 have hu23:=Try.underlying23
 have HB:=Aside0.mk (Below.refl w.heap.size w)
 have H:((shares_frac.f k a0 2).bind fun bt137=>(some (bt137.1,bt137.2))) = some (r1,r2):=h
 clear h
 replace H:=Option.bind_eq_some_iff.mp H
 obtain ⟨⟨t137,t138⟩,A20,H⟩:=H
 replace H:(some (t137,t138)) = some (r1,r2):=H
 have A2:=Aside0.mk A20
 clear A20
 simp only [Option.some.injEq,Prod.mk.injEq] at H
 obtain ⟨rfl,rfl⟩:=H
 go_enter Try.func130,Try.ntmps130
 go_wp2_with (first | ((with_reducible refine gate_dst (N:=2) rfl ?_);refine box_event ?hg (N:=2) ?hd (cs:=#[.int .i64 0,.int .i64 0]) (t:=23) ?hr ?_;(case hd=>rfl);(case hg=>rfl);(case hr=>first | (go_simp;done) | (go_simp;rfl));intro gb136 hg w3 hbox hb;have n0_:=Aside0.mk (below_step (by repeat (first | (with_reducible first | exact HB.out | apply below_alloc | apply pw_below_drewN | apply below_drew1) | exact HB.out)) hb);have n1_:=Aside0.mk (hbox);have n2_:=Aside0.mk ((by rw [hg];exact (below_size (by repeat (first | (with_reducible first | exact HB.out | apply below_alloc | apply pw_below_drewN | apply below_drew1) | exact HB.out))):w.heap.size ≤ gb136));have n3_:=Aside0.mk ((by rw [hg];exact (below_size (by repeat (first | (with_reducible first | exact HB.out | apply below_alloc | apply pw_below_drewN | apply below_drew1) | exact HB.out))):w.heap.size ≤ gb136));clear HB;have HB:=n0_;have BK136:=n1_;have GW136:=n2_;have GE136:=n3_;clear n0_ n1_ n2_ n3_;clear hb hbox hg) | ((with_reducible refine gate_callee (f:=117) rfl ?_);refine goesL_ (some 4) rfl rfl Try.func117 (by kernel_rfl) rfl #[.int .i64 a0,.int .i64 2] rfl (by (try simp only [List.map_toArray,List.map_cons,List.map_nil]);first | done | rfl | (simp only [List.length_drop,List.length_take];rfl)) ?_;(with_reducible refine (shares_frac.calls k a0 2 t137 t138 _ A2.out).mono ?_);rintro e w4 ⟨rfl,hb⟩;refine ⟨_,rfl,?_⟩;have n0_:=Aside0.mk (blk_below (g:=gb136) (o:=.cells #[.int .i64 0,.int .i64 0] 23 (0,0)) (by (with_reducible repeat (first | refine blk_drewN ?_ _ | refine blk_drew ?_ | refine blk_alloc ?_ _));exact BK136.out) hb);have n1_:=Aside0.mk (below_step (by repeat (first | (with_reducible first | exact HB.out | apply below_alloc | apply pw_below_drewN | apply below_drew1 | refine below_set ?_ GE136.out) | exact HB.out)) hb);clear BK136;clear HB;have BK136:=n0_;have HB:=n1_;clear n0_ n1_;(try clear hb);have hcz5_0:w4.cell? ⟨gb136,0,none⟩ = some (.int .i64 0):=(blk_cell BK136.out 0).trans rfl;have hcz5_1:w4.cell? ⟨gb136,1,none⟩ = some (.int .i64 0):=(blk_cell BK136.out 1).trans rfl;have hfz5_0:=blk_frozen BK136.out 0;have hfz5_1:=blk_frozen BK136.out 1))
 refine bodyPost_ret (results_cell_row rfl _ _ gb136 23 #[.int .i64 t137,.int .i64 t138] (0,0) _ rfl (by (with_reducible repeat (first | refine blk_drewN ?_ _ | refine blk_drew ?_ | refine blk_alloc ?_ _));refine blk_put (cs:=#[.int .i64 t137,.int .i64 0]) ?_ 1 _ rfl;(with_reducible repeat (first | refine blk_drewN ?_ _ | refine blk_drew ?_ | refine blk_alloc ?_ _));refine blk_put (cs:=#[.int .i64 0,.int .i64 0]) ?_ 0 _ rfl;(with_reducible repeat (first | refine blk_drewN ?_ _ | refine blk_drew ?_ | refine blk_alloc ?_ _));exact BK136.out) Try.underlying23 rfl (by kernel_rfl)) rfl ?_
 exact ⟨by first | rfl | (simp [errW_none,errW_some] <;> rfl) | (simp [*,errW_none,errW_some] <;> rfl),by repeat (first | (with_reducible first | exact HB.out | apply below_alloc | apply pw_below_drewN | apply below_drew1 | refine below_set ?_ GE136.out) | exact HB.out)⟩
def each_halves.l0:Nat → List (S23) → List Int → Int → Int → Option ((List (S23)))
 | 0,_,_,_,_=>none
 | k + 1,x5,x9,x10,x11=>if x11 < x10 then (if 0 ≤ x11 then (if x11 < (x9.length:Int) then ((shares_claims_halves_1.f k (rd x9 x11)).bind fun bt1611=>(if x5.length < 8796093022208 then (each_halves.l0 k (x5 ++ [(⟨bt1611.1,bt1611.2⟩:S23)]) x9 x10 (wrap64 (x11 + 1))) else (none))) else (none)) else (none)) else (some x5)
def each_halves.f (k:Nat) (l0_0:List Int) (a0_1:Int):Option ((List (S23))):=each_halves.l0 k ([]:List (S23)) l0_0 (l0_0.length:Int) 0
theorem each_halves.mono_l:∀ k,(∀ y0 y1 y2 y3,LeO (each_halves.l0 k y0 y1 y2 y3) (each_halves.l0 (k + 1) y0 y1 y2 y3))
 | 0=>fun _ _ _ _ r h=>by simp [each_halves.l0] at h
 | k + 1=>by
  have ih0:=each_halves.mono_l k
  intro y0 y1 y2 y3
  unfold each_halves.l0
  repeat' first
  | (with_reducible exact ih0 _ _ _ _)
  | (with_reducible exact shares_claims_halves_1.mono _ _)
  | (with_reducible exact LeO.refl _)
  | (with_reducible exact LeO.none _)
  | (with_reducible refine LeO.ite ?_ ?_)
  | (with_reducible refine LeO.bind ?_ (fun _=>?_))
  | exact ih0 _ _ _ _
  | exact shares_claims_halves_1.mono _ _
  | exact LeO.none _
  | refine LeO.ite ?_ ?_
  | refine LeO.bind ?_ (fun _=>?_)
theorem each_halves.mono:∀ a0 a1 k,LeO (each_halves.f k a0 a1) (each_halves.f (k + 1) a0 a1):=by
 intro a0 a1 k
 have ih0:=each_halves.mono_l k
 unfold each_halves.f
 repeat' first
   | (with_reducible exact ih0 _ _ _ _)
   | (with_reducible exact shares_claims_halves_1.mono _ _)
   | (with_reducible exact LeO.refl _)
   | (with_reducible exact LeO.none _)
   | (with_reducible refine LeO.ite ?_ ?_)
   | (with_reducible refine LeO.bind ?_ (fun _=>?_))
   | exact ih0 _ _ _ _
   | exact shares_claims_halves_1.mono _ _
   | exact LeO.none _
   | refine LeO.ite ?_ ?_
   | refine LeO.bind ?_ (fun _=>?_)
theorem each_halves.calls (k:Nat) (A0_0:Option Addr) (c0_0:Nat) (l0_0:List Int) (a0_1:Int) (r:List (S23)) (w:World) (hr0_0:Kd.C (Kd.int .i64) w A0_0 l0_0.length l0_0) (hc0_0:l0_0.length ≤ c0_0) (h:each_halves.f k l0_0 a0_1 = some r) :
  Calls Try.prog 120 #[.agg #[.slice A0_0 l0_0.length c0_0,.int .i64 a0_1],.func (.func 130) #[] #[]] w fun e w'=>∃ v0_:Value,e = .returned (v0_) ∧ Kd.R k23 23 w' w.heap.size (fun _=>True) v0_ r ∧ Below w.heap.size w w':=by
 have hu94:=Try.underlying94
 have HR0_0:=A_ hr0_0
 have HC0_0:=A_ hc0_0
 clear hr0_0 hc0_0
 have HB:=A_ (Below.refl w.heap.size w)
 have H:(each_halves.l0 k ([]:List (S23)) l0_0 (l0_0.length:Int) 0) = some r:=h
 clear h
 have H':=A_ H
 clear H
 go_enter Try.func120,Try.ntmps120
 go_wp2_with (first | ((with_reducible refine gate_dst (N:=2) rfl ?_);refine box_event ?hg (N:=2) ?hd (cs:=#[.slice A0_0 l0_0.length c0_0,.int .i64 a0_1]) (t:=94) ?hr ?_;(case hd=>rfl);(case hg=>rfl);(case hr=>first | (go_simp;done) | (go_simp;rfl));intro gb1609 hg w2 hbox hb;have BK1609:=A_ hbox;have GW1609:=gw hg HB;have GE1609:=GW1609;replace HB:=bB HB hb;clear hb hbox hg;have hcz3_0:w2.cell? ⟨gb1609,0,none⟩ = some (.slice A0_0 l0_0.length c0_0):=cz BK1609 0;have hcz3_1:w2.cell? ⟨gb1609,1,none⟩ = some (.int .i64 a0_1):=cz BK1609 1;have hfz3_0:=blk_frozen BK1609.out 0;have hfz3_1:=blk_frozen BK1609.out 1))
 go_loopg [5,11] k (fun kq v5 v11 w'=>∃ (x5_1:List (S23)) (x11_1:Int),v11 = .int .i64 x11_1 ∧ Aside0 (each_halves.l0 kq x5_1 l0_0 (l0_0.length:Int) x11_1 = some r) ∧ Aside0 (kq ≤ k) ∧ Aside0 (Kd.R k23 23 w' w.heap.size (fun _=>True) v5 x5_1) ∧ Aside0 (w'.heap[gb1609]? = some (.cells #[(.slice A0_0 l0_0.length c0_0),.int .i64 a0_1] 94 (0,0))) ∧ Aside0 (Below w.heap.size w w'))
 case atStart=>exact ⟨(([]:List (S23))),(0),(by first | rfl | (simp;done) | (simp [*];done)),H',⟨Nat.le_refl _⟩,⟨by first | exact Kd.R_nil _ _ _ _ _ | exact Kd.N_nil _ _ _ _ _ | exact Kd.V_nil _ _ _ _ _ | exact Kd.Q_nil _ _ _ _ _ | exact Kd.S_nil _ _ _ _ _⟩,⟨by (with_reducible repeat (first | refine blk_drewN ?_ _ | refine blk_drew ?_ | refine blk_alloc ?_ _));exact BK1609.out⟩,⟨by repeat (first | (with_reducible first | exact HB.out | apply below_alloc | apply pw_below_drewN | apply below_drew1 | refine below_set ?_ GE1609.out) | exact HB.out)⟩⟩
 case round =>
  clear H'
  try clear c1
  try clear p2
  try clear hcz3_0
  try clear hcz3_1
  try clear hfz3_0
  try clear hfz3_1
  obtain ⟨x5_1,x11_1,rfl,HA,HK1,HO_5,BK1609,HB⟩:=hrel
  cases gk with
  | zero=>exact absurd HA.out (by simp [each_halves.l0])
  | succ k1 =>
   have H:=HA.out
   clear HA
   simp only [each_halves.l0] at H
   by_cases c4:x11_1 < (l0_0.length:Int)
   case neg =>
    rw [if_neg c4] at H
    have c4b0:decide (x11_1 < (l0_0.length:Int)) = false:=decide_eq_false c4
    clear c4
    obtain rfl:=Option.some.inj H
    go_wp2
    go_ret
    exact ⟨_,by first | rfl | (simp [errW_none,errW_some] <;> rfl) | (simp [*,errW_none,errW_some] <;> rfl),by (with_reducible repeat (first | apply Kd.R_alloc | apply Kd.R_drewN | apply Kd.R_drew));exact HO_5.out,by repeat (first | (with_reducible first | exact HB.out | apply below_alloc | apply pw_below_drewN | apply below_drew1 | refine below_set ?_ GE1609.out) | exact HB.out)⟩
   rw [if_pos c4] at H
   have c4b0:decide (x11_1 < (l0_0.length:Int)) = true:=decide_eq_true c4
   clear c4
   by_cases c5:0 ≤ x11_1
   case neg =>
    rw [if_neg c5] at H
    exact absurd H (by simp)
   rw [if_pos c5] at H
   have c5b0:decide (0 ≤ x11_1) = true:=decide_eq_true c5
   clear c5
   by_cases c6:x11_1 < (l0_0.length:Int)
   case neg =>
    rw [if_neg c6] at H
    exact absurd H (by simp)
   rw [if_pos c6] at H
   have c6b0:decide (x11_1 < (l0_0.length:Int)) = true:=decide_eq_true c6
   clear c6
   replace H:=Option.bind_eq_some_iff.mp H
   obtain ⟨⟨t1611,t1612⟩,A70,H⟩:=H
   replace H:(if x5_1.length < 8796093022208 then (each_halves.l0 k1 (x5_1 ++ [(⟨t1611,t1612⟩:S23)]) l0_0 (l0_0.length:Int) (wrap64 (x11_1 + 1))) else (none)) = some r:=H
   have A7:=A_ A70
   clear A70
   by_cases c8:x5_1.length < 8796093022208
   case neg =>
    rw [if_neg c8] at H
    exact absurd H (by simp)
   rw [if_pos c8] at H
   have LMc8:=A_ c8
   clear c8
   obtain ⟨y1613,hy1613⟩:∃ y_:List (S23),y_ = (x5_1 ++ [(⟨t1611,t1612⟩:S23)]):=⟨_,rfl⟩
   replace H:(each_halves.l0 k1 y1613 l0_0 (l0_0.length:Int) (wrap64 (x11_1 + 1))) = some r:=by first | (rw [hy1613];with_reducible exact H) | (have H2_:=(Option.bind_some _ _).symm.trans H;rw [hy1613];with_reducible exact H2_) | (have H2_:=(Option.bind_some _ _).symm.trans H;with_reducible exact H2_) | with_reducible exact H | (rw [hy1613];exact H) | exact H
   have Ny1613:=A_ hy1613
   clear hy1613
   have H':=A_ H
   clear H
   have p1610:0 ≤ (x11_1:Int):=of_decide_eq_true (by first | (with_reducible assumption) | assumption)
   have q1610:x11_1 < (l0_0.length:Int):=of_decide_eq_true (by first | (with_reducible assumption) | assumption)
   obtain ⟨ad1610,e1610,hx1610_0⟩:=Kd.at_int HR0_0.out x11_1 p1610 q1610
   cases e1610
   replace hx1610_0:=(HB.out.cell (World.block_lt_of_cell? w _ hx1610_0)).trans hx1610_0
   replace p1610:=eq_true p1610
   replace q1610:=eq_true q1610
   go_wp2_with (first | (go_at_call 130;(with_reducible refine (shares_claims_halves_1.calls k1 (rd l0_0 x11_1) t1611 t1612 _ A7.out).mono ?_);rintro e w9 ⟨rfl,hb⟩;replace HO_5:=rB HO_5 hb;replace BK1609:=kB BK1609 hb;replace HB:=bB HB hb;(try clear hb)) | ((with_reducible refine gate_builtin (b:=.append) (xs:=#[.tmp 15,.tmp 19]) rfl ?_);at_builtin;refine Kd.R_append k23 (w0:=w) w.heap.size rfl (.tmp 15) (.tmp 19) 35 23 (.agg #[(.int .i64 0),(.int .i64 0)]) 16 rfl Try.underlying35 info23 rfl (by decide) (by omega) u5 x5_1 (⟨t1611,t1612⟩:S23) [.int .i64 t1611,.int .i64 t1612] (fun _=>True) (fun _=>False) rfl rfl ?aP (fun _ hk=>hk.elim) ?aF ?aO ?aB ?aS ?aL ?_;(case aP=>exact k23_mkM _ _ _ (⟨t1611,t1612⟩:S23));(case aB=>exact (bl HB));(case aF=>exact (fun _ _=>trivial));(case aO=>exact (rs HO_5));(case aS=>exact (below_size (bl HB)));(case aL=>have:=LMc8.out;omega);intro v1614 w10 ho hb hg hat;rw [← Ny1613.out] at ho;have HO1615:=A_ ho;replace BK1609:=A_ (blk_grown (g:=gb1609) (o:=.cells #[.slice (some ad1610) l0_0.length c0_0,.int .i64 a0_1] 94 (0,0)) (kb BK1609) hg (Kd.R_ne HO_5.out BK1609.out (by decide)));replace HB:=A_ hb;clear HO_5;clear ho hb hg hat))
   go_roundg k1
   case measure=>have:=HK1.out;omega
   case rel=>exact ⟨(y1613),(wrap64 (x11_1 + 1)),(by first | rfl | (simp;done) | (simp [*];done)),H',⟨by have:=HK1.out;omega⟩,⟨by (with_reducible repeat (first | apply Kd.R_alloc | apply Kd.R_drewN | apply Kd.R_drew));exact HO1615.out⟩,⟨by (with_reducible repeat (first | refine blk_drewN ?_ _ | refine blk_drew ?_ | refine blk_alloc ?_ _));exact BK1609.out⟩,⟨by repeat (first | (with_reducible first | exact HB.out | apply below_alloc | apply pw_below_drewN | apply below_drew1 | refine below_set ?_ GE1609.out) | exact HB.out)⟩⟩
def shares_claims_halves.f (k:Nat) (l0_0:List Int) (a0_1:Int):Option ((List (S23))):=(each_halves.f k l0_0 a0_1).bind fun t1617=>(some t1617)
theorem shares_claims_halves.mono:∀ a0 a1 k,LeO (shares_claims_halves.f k a0 a1) (shares_claims_halves.f (k + 1) a0 a1):=by
 intro a0 a1 k
 unfold shares_claims_halves.f
 repeat' first
   | (with_reducible exact each_halves.mono _ _ _)
   | (with_reducible exact LeO.refl _)
   | (with_reducible exact LeO.none _)
   | (with_reducible refine LeO.ite ?_ ?_)
   | (with_reducible refine LeO.bind ?_ (fun _=>?_))
   | exact each_halves.mono _ _ _
   | exact LeO.none _
   | refine LeO.ite ?_ ?_
   | refine LeO.bind ?_ (fun _=>?_)
theorem shares_claims_halves.calls (k:Nat) (A0_0:Option Addr) (c0_0:Nat) (l0_0:List Int) (a0_1:Int) (r:List (S23)) (w:World) (hr0_0:Kd.C (Kd.int .i64) w A0_0 l0_0.length l0_0) (hc0_0:l0_0.length ≤ c0_0) (h:shares_claims_halves.f k l0_0 a0_1 = some r) :
  Calls Try.prog 123 #[.agg #[.slice A0_0 l0_0.length c0_0,.int .i64 a0_1]] w fun e w'=>∃ v0_:Value,e = .returned (v0_) ∧ Kd.R k23 23 w' w.heap.size (fun _=>True) v0_ r ∧ Below w.heap.size w w':=by
 have hu94:=Try.underlying94
 have HR0_0:=Aside0.mk hr0_0
 have HC0_0:=Aside0.mk hc0_0
 clear hr0_0 hc0_0
 have HB:=Aside0.mk (Below.refl w.heap.size w)
 have H:((each_halves.f k l0_0 a0_1).bind fun t1617=>(some t1617)) = some r:=h
 clear h
 replace H:=Option.bind_eq_some_iff.mp H
 obtain ⟨t1617,A20,H⟩:=H
 replace H:(some t1617) = some r:=H
 have A2:=Aside0.mk A20
 clear A20
 obtain rfl:=Option.some.inj H
 go_enter Try.func123,Try.ntmps123
 go_wp2_with (first | ((with_reducible refine gate_dst (N:=1) rfl ?_);refine box_event ?hg (N:=1) ?hd (cs:=#[.slice A0_0 l0_0.length c0_0,.int .i64 a0_1]) (t:=94) ?hr ?_;(case hd=>rfl);(case hg=>rfl);(case hr=>first | (go_simp;done) | (go_simp;rfl));intro gb1616 hg w3 hbox hb;have n0_:=Aside0.mk (below_step (by repeat (first | (with_reducible first | exact HB.out | apply below_alloc | apply pw_below_drewN | apply below_drew1) | exact HB.out)) hb);have n1_:=Aside0.mk (hbox);have n2_:=Aside0.mk ((by rw [hg];exact (below_size (by repeat (first | (with_reducible first | exact HB.out | apply below_alloc | apply pw_below_drewN | apply below_drew1) | exact HB.out))):w.heap.size ≤ gb1616));have n3_:=Aside0.mk ((by rw [hg];exact (below_size (by repeat (first | (with_reducible first | exact HB.out | apply below_alloc | apply pw_below_drewN | apply below_drew1) | exact HB.out))):w.heap.size ≤ gb1616));clear HB;have HB:=n0_;have BK1616:=n1_;have GW1616:=n2_;have GE1616:=n3_;clear n0_ n1_ n2_ n3_;clear hb hbox hg;have hcz4_0:w3.cell? ⟨gb1616,0,none⟩ = some (.slice A0_0 l0_0.length c0_0):=(blk_cell BK1616.out 0).trans rfl;have hcz4_1:w3.cell? ⟨gb1616,1,none⟩ = some (.int .i64 a0_1):=(blk_cell BK1616.out 1).trans rfl;have hfz4_0:=blk_frozen BK1616.out 0;have hfz4_1:=blk_frozen BK1616.out 1) | ((with_reducible refine gate_callee (f:=120) rfl ?_);refine goesL_ (some 4) rfl rfl Try.func120 (by kernel_rfl) rfl #[.agg #[.slice A0_0 l0_0.length c0_0,.int .i64 a0_1],.func (.func 130) #[] #[]] rfl (by (try simp only [List.map_toArray,List.map_cons,List.map_nil]);first | done | rfl | (simp only [List.length_drop,List.length_take];rfl)) ?_;(with_reducible refine (each_halves.calls k _ _ l0_0 a0_1 t1617 _ ?side1 ?side2 A2.out).mono ?_);(case side1=>repeat (first | exact (Kd.C_below HR0_0.out HB.out) | (with_reducible refine Kd.C_alloc ?_ _) | (with_reducible refine Kd.C_drewN ?_ _) | (with_reducible refine Kd.C_drew ?_)));(case side2=>exact HC0_0.out);rintro e w5 ⟨v1618,rfl,ho0,hb⟩;refine ⟨_,rfl,?_⟩;have n0_:=Aside0.mk (Kd.R_lower ho0 (below_size (by repeat (first | (with_reducible first | exact HB.out | apply below_alloc | apply pw_below_drewN | apply below_drew1 | refine below_set ?_ GE1616.out) | exact HB.out))));have n1_:=Aside0.mk (blk_below (g:=gb1616) (o:=.cells #[.slice A0_0 l0_0.length c0_0,.int .i64 a0_1] 94 (0,0)) (by (with_reducible repeat (first | refine blk_drewN ?_ _ | refine blk_drew ?_ | refine blk_alloc ?_ _));exact BK1616.out) hb);have n2_:=Aside0.mk (below_step (by repeat (first | (with_reducible first | exact HB.out | apply below_alloc | apply pw_below_drewN | apply below_drew1 | refine below_set ?_ GE1616.out) | exact HB.out)) hb);clear BK1616;clear HB;have HO1619:=n0_;have BK1616:=n1_;have HB:=n2_;clear n0_ n1_ n2_;(try clear hb);(try clear ho0)))
 go_ret
 exact ⟨_,by first | rfl | (simp [errW_none,errW_some] <;> rfl) | (simp [*,errW_none,errW_some] <;> rfl),by (with_reducible repeat (first | apply Kd.R_alloc | apply Kd.R_drewN | apply Kd.R_drew));exact HO1619.out,by repeat (first | (with_reducible first | exact HB.out | apply below_alloc | apply pw_below_drewN | apply below_drew1 | refine below_set ?_ GE1616.out) | exact HB.out)⟩
end Go.Proofs.Ytjohcjfmlhihbaa.G
namespace Go.Proofs.Ytjohcjfmlhihbaa.G
open Go.RowKit Go.Proofs.YtjohcjfmlhihbaaW.PrintWords Go.Proofs.YtjohcjfmlhihbaaW.PrintLast Go.Proofs.YtjohcjfmlhihbaaW.PrintMore
set_option maxHeartbeats 8000000
set_option maxRecDepth 100000
attribute [local go_sem] cond_true cond_false fld23_0 fld23_1 fld45_0 fld45_1 fld109_0 fld109_1 fld94_0 fld94_1 max2_int min2_int max_two min_two max_three min_three max_four min_four
def shares_claims_talmud.l0:Nat → List (S23) → List (S23) → List Int → Int → Int → Option ((List (S23)))
 | 0,_,_,_,_,_=>none
 | k + 1,x3,x4,x31,x32,x33=>if x33 < x32 then (if 0 ≤ x33 then (if x33 < (x31.length:Int) then ((shares_whole.f (rd x31 x33)).bind fun bt1640=>(if x33 < (x3.length:Int) then ((shares_minus.f k bt1640.1 bt1640.2 ((rd_T23 x3 x33).f0) ((rd_T23 x3 x33).f1)).bind fun bt1643=>(if x4.length < 8796093022208 then (shares_claims_talmud.l0 k x3 (x4 ++ [(⟨bt1643.1,bt1643.2⟩:S23)]) x31 x32 (wrap64 (x33 + 1))) else (none))) else (none))) else (none)) else (none)) else (some x4)
def shares_claims_talmud.f (k:Nat) (l0_0:List Int) (a0_1:Int):Option ((List (S23))):=(shares_total.f k l0_0).bind fun t1621=>(if (wrap64 (2 * a0_1)) ≤ t1621 then ((shares_claims_halves.f k l0_0 a0_1).bind fun t1622=>((shares_whole.f a0_1).bind fun bt1625=>((shares_equal.f k t1622 bt1625.1 bt1625.2).bind fun t1627=>(some t1627)))) else ((shares_claims_halves.f k l0_0 a0_1).bind fun t1630=>((shares_total.f k l0_0).bind fun t1633=>((shares_whole.f (wrap64 (t1633 - a0_1))).bind fun bt1634=>((shares_equal.f k t1630 bt1634.1 bt1634.2).bind fun t1636=>(shares_claims_talmud.l0 k t1636 ([]:List (S23)) l0_0 (l0_0.length:Int) 0))))))
theorem shares_claims_talmud.mono_l:∀ k,(∀ y0 y1 y2 y3 y4,LeO (shares_claims_talmud.l0 k y0 y1 y2 y3 y4) (shares_claims_talmud.l0 (k + 1) y0 y1 y2 y3 y4))
 | 0=>fun _ _ _ _ _ r h=>by simp [shares_claims_talmud.l0] at h
 | k + 1=>by
  have ih0:=shares_claims_talmud.mono_l k
  intro y0 y1 y2 y3 y4
  unfold shares_claims_talmud.l0
  repeat' first
  | (with_reducible first | exact ih0 _ _ _ _ _ | exact shares_claims_halves.mono _ _ _ | exact shares_equal.mono _ _ _ _ | exact shares_minus.mono _ _ _ _ _ | exact shares_total.mono _ _ | exact LeO.refl _ | exact LeO.none _ | refine LeO.ite ?_ ?_ | refine LeO.bind ?_ (fun _=>?_))
  | exact LeO.none _ | refine LeO.ite ?_ ?_ | refine LeO.bind ?_ (fun _=>?_)
theorem shares_claims_talmud.mono:∀ a0 a1 k,LeO (shares_claims_talmud.f k a0 a1) (shares_claims_talmud.f (k + 1) a0 a1):=by
 intro a0 a1 k
 have ih0:=shares_claims_talmud.mono_l k
 unfold shares_claims_talmud.f
 repeat' first
   | (with_reducible first | exact ih0 _ _ _ _ _ | exact shares_claims_halves.mono _ _ _ | exact shares_equal.mono _ _ _ _ | exact shares_minus.mono _ _ _ _ _ | exact shares_total.mono _ _ | exact LeO.refl _ | exact LeO.none _ | refine LeO.ite ?_ ?_ | refine LeO.bind ?_ (fun _=>?_))
   | exact LeO.none _ | refine LeO.ite ?_ ?_ | refine LeO.bind ?_ (fun _=>?_)
def shares_claims_talmud.T3:Bool × List (List Nat × List Nat):=(true,[([],[]),([0],[0]),([],[]),([2],[2]),([3,1],[3]),([],[]),([5],[5]),([4,6],[4,6]),([7,4],[7]),([1,8,8],[1,8]),([9,9,0,1,2,3,4,5,6,7,8,9],[9])])
def shares_claims_talmud.B3:List Nat:=[0,1,0,4,15,0,32,127,255,511,1023]
theorem shares_claims_talmud.tab3:rtab .any (opsOf Try.f100 3) = shares_claims_talmud.T3:=by kernel_rfl
theorem shares_claims_talmud.bits3:waitsOk shares_claims_talmud.T3.2 shares_claims_talmud.B3 = true:=by kernel_rfl
def shares_claims_talmud.T8:Bool × List (List Nat × List Nat):=(true,[([],[]),([],[]),([1],[1]),([],[]),([],[]),([3,4],[3,4]),([5],[5]),([2,6,2],[2,6]),([7],[7]),([0,8,7],[0,8]),([9,9,0,1,2,3,4,5,6,7,8,9],[0,9])])
def shares_claims_talmud.B8:List Nat:=[0,0,2,0,0,24,56,126,254,511,1023]
theorem shares_claims_talmud.tab8:rtab .any (opsOf Try.f100 8) = shares_claims_talmud.T8:=by kernel_rfl
theorem shares_claims_talmud.bits8:waitsOk shares_claims_talmud.T8.2 shares_claims_talmud.B8 = true:=by kernel_rfl
theorem shares_claims_talmud.calls (k:Nat) (A0_0:Option Addr) (c0_0:Nat) (l0_0:List Int) (a0_1:Int) (r:List (S23)) (w:World) (hr0_0:Kd.C (Kd.int .i64) w A0_0 l0_0.length l0_0) (hc0_0:l0_0.length ≤ c0_0) (h:shares_claims_talmud.f k l0_0 a0_1 = some r) :
  Calls Try.prog 100 #[.agg #[.slice A0_0 l0_0.length c0_0,.int .i64 a0_1]] w fun e w'=>∃ v0_:Value,e = .returned (v0_) ∧ Kd.R k23 23 w' w.heap.size (fun _=>True) v0_ r ∧ Below w.heap.size w w':=by
 have hu94:=Try.underlying94
 have hu23:=Try.underlying23
 have HR0_0:=A_ hr0_0
 have HC0_0:=A_ hc0_0
 clear hr0_0 hc0_0
 have HB:=A_ (Below.refl w.heap.size w)
 have H:((shares_total.f k l0_0).bind fun t1621=>(if (wrap64 (2 * a0_1)) ≤ t1621 then ((shares_claims_halves.f k l0_0 a0_1).bind fun t1622=>((shares_whole.f a0_1).bind fun bt1625=>((shares_equal.f k t1622 bt1625.1 bt1625.2).bind fun t1627=>(some t1627)))) else ((shares_claims_halves.f k l0_0 a0_1).bind fun t1630=>((shares_total.f k l0_0).bind fun t1633=>((shares_whole.f (wrap64 (t1633 - a0_1))).bind fun bt1634=>((shares_equal.f k t1630 bt1634.1 bt1634.2).bind fun t1636=>(shares_claims_talmud.l0 k t1636 ([]:List (S23)) l0_0 (l0_0.length:Int) 0))))))) = some r:=h
 clear h
 replace H:=Option.bind_eq_some_iff.mp H
 obtain ⟨t1621,A20,H⟩:=H
 replace H:(if (wrap64 (2 * a0_1)) ≤ t1621 then ((shares_claims_halves.f k l0_0 a0_1).bind fun t1622=>((shares_whole.f a0_1).bind fun bt1625=>((shares_equal.f k t1622 bt1625.1 bt1625.2).bind fun t1627=>(some t1627)))) else ((shares_claims_halves.f k l0_0 a0_1).bind fun t1630=>((shares_total.f k l0_0).bind fun t1633=>((shares_whole.f (wrap64 (t1633 - a0_1))).bind fun bt1634=>((shares_equal.f k t1630 bt1634.1 bt1634.2).bind fun t1636=>(shares_claims_talmud.l0 k t1636 ([]:List (S23)) l0_0 (l0_0.length:Int) 0)))))) = some r:=H
 have A2:=A_ A20
 clear A20
 by_cases c3:(wrap64 (2 * a0_1)) ≤ t1621
 ·rw [if_pos c3] at H
  have c3b0:=decide_eq_true c3
  clear c3
  replace H:=Option.bind_eq_some_iff.mp H
  obtain ⟨t1622,A40,H⟩:=H
  replace H:((shares_whole.f a0_1).bind fun bt1625=>((shares_equal.f k t1622 bt1625.1 bt1625.2).bind fun t1627=>(some t1627))) = some r:=H
  have A4:=A_ A40
  clear A40
  replace H:=Option.bind_eq_some_iff.mp H
  obtain ⟨⟨t1625,t1626⟩,A50,H⟩:=H
  dsimp only at H
  have A5:=A_ A50
  clear A50
  replace H:=Option.bind_eq_some_iff.mp H
  obtain ⟨t1627,A60,H⟩:=H
  replace H:(some t1627) = some r:=H
  have A6:=A_ A60
  clear A60
  obtain rfl:=Option.some.inj H
  go_enter Try.func100,Try.ntmps100
  try go_wp2_with (first | ((with_reducible refine gate_dst (N:=1) rfl ?_);refine bx 1 #[.slice A0_0 l0_0.length c0_0,.int .i64 a0_1] 94 ?_;intro gb1620 hg w7 hbox hb;have BK1620:=A_ hbox;have GW1620:=gw hg HB;have GE1620:=GW1620;replace HB:=bB HB hb;clear hb hbox hg))
  replace BK1620:=kD BK1620
  replace HB:=bD HB
  refine start_ (n:=7) (S:=fun w'=>w'.cell? ⟨gb1620,0,none⟩ = some (.slice A0_0 l0_0.length c0_0) ∧ w'.cell? ⟨gb1620,1,none⟩ = some (.int .i64 a0_1)) (ds:=[]) (ba 7 0) (by kernel_rfl) rfl rfl ⟨cz BK1620 0,cz BK1620 1⟩ (fun hHeld=>?_)
  generalize w7.drew = w8 at BK1620 HB hHeld ⊢
  refine pr 0 7 1 ?_
  refine pr 3 10 9 ?_
  refine tr 1 8 11 hHeld ?_
  refine pr 2 9 15 ?_
  refine tr 4 11 31 hHeld ?_
  refine os 5 12 63 (fun K hK=>?_)
  refine gq Try.func93 #[.slice A0_0 l0_0.length c0_0] ?_
  with_reducible refine (shares_total.calls k _ _ l0_0 t1621 _ ?side1 ?side2 A2.out).mono ?_
  (case side1=>exact cB HR0_0 HB)
  (case side2=>exact HC0_0.out)
  rintro e w' ⟨rfl,⟨nd,rfl⟩⟩
  refine ⟨_,rfl,?_⟩
  refine hz hK (fun hHeld=>?_)
  clear hK K
  refine nq 12 ?_
  refine pr 6 13 127 ?_
  refine done_ (by kernel_rfl) ?_
  try go_wp2
  (try (rw [drewN_self w8];generalize hq_:World.drewN w8 _ = w8;replace BK1620:Aside0 (w8.heap[gb1620]? = some (.cells #[.slice A0_0 l0_0.length c0_0,.int .i64 a0_1] 94 (0,0))):=⟨by rw [← hq_];exact BK1620.out⟩;replace HB:Aside0 (Below w.heap.size w w8):=⟨by rw [← hq_];exact (bl HB)⟩;clear hq_))
  replace BK1620:=kD BK1620
  replace HB:=bD HB
  refine start_ (n:=7) (S:=fun w'=>w'.cell? ⟨gb1620,0,none⟩ = some (.slice A0_0 l0_0.length c0_0) ∧ w'.cell? ⟨gb1620,1,none⟩ = some (.int .i64 a0_1)) (ds:=[]) (ba 7 0) (by kernel_rfl) rfl rfl ⟨cz BK1620 0,cz BK1620 1⟩ (fun hHeld=>?_)
  generalize w8.drew = w9 at BK1620 HB hHeld ⊢
  refine pr 2 16 4 ?_
  refine tr 0 14 5 hHeld ?_
  refine tr 3 17 13 hHeld ?_
  refine os 1 15 15 (fun K hK=>?_)
  refine gq Try.func123 #[.agg #[.slice A0_0 l0_0.length c0_0,.int .i64 a0_1]] ?_
  with_reducible refine (shares_claims_halves.calls k _ _ l0_0 a0_1 t1622 _ ?side1 ?side2 A4.out).mono ?_
  (case side1=>exact cB HR0_0 HB)
  (case side2=>exact HC0_0.out)
  rintro e w10 ⟨v1623,rfl,ho0,hb⟩
  refine ⟨_,rfl,?_⟩
  have HO1624:=A_ (Kd.R_lower ho0 (below_size (bl HB)))
  replace BK1620:=kB BK1620 hb
  replace HB:=bB HB hb
  (try clear hb)
  refine hz hK (fun hHeld=>?_)
  clear hK K
  refine nq 15 ?_
  refine os 4 18 31 (fun K hK=>?_)
  refine gq Try.func64 #[.int .i64 a0_1] ?_
  with_reducible refine (shares_whole.calls a0_1 t1625 t1626 _ A5.out).mono ?_
  rintro e w11 ⟨rfl,hb⟩
  refine ⟨_,rfl,?_⟩
  replace HO1624:=rB HO1624 hb
  replace BK1620:=kB BK1620 hb
  replace HB:=bB HB hb
  (try clear hb)
  obtain ⟨Ao12,co12,eo12⟩:=Kd.R_slice HO1624.out
  (first | subst eo12 | (injection eo12 with f1_ f2_ f3_;have f4_:=f1_.symm;have f5_:=f3_.symm;clear f1_ f2_ f3_;subst f4_;subst f5_))
  refine hz hK (fun hHeld=>?_)
  clear hK K
  refine nq 18 ?_
  refine os 5 19 63 (fun K hK=>?_)
  refine gq Try.func122 #[.slice Ao12 t1622.length co12,.agg #[.int .i64 t1625,.int .i64 t1626]] ?_
  with_reducible refine (shares_equal.calls k _ _ t1622 t1625 t1626 t1627 _ ?side1 ?side2 A6.out).mono ?_
  (case side1=>repeat (first | exact (Kd.R_reads' HO1624.out).2.2 | (with_reducible refine Kd.C_alloc ?_ _) | (with_reducible refine Kd.C_drewN ?_ _) | (with_reducible refine Kd.C_drew ?_)))
  (case side2=>exact (Kd.R_reads' HO1624.out).2.1)
  rintro e w13 ⟨v1628,rfl,ho0,hb⟩
  refine ⟨_,rfl,?_⟩
  have HO1629:=A_ (Kd.R_lower (Kd.R_new' ho0 (Kd.R_lt HO1624.out)) (below_size HB.out))
  replace HO1624:=A_ (Kd.R_elder' HO1624.out (Kd.R_base ho0) hb)
  replace BK1620:=kB BK1620 hb
  replace HB:=bB HB hb
  (try clear hb)
  refine hz hK (fun hHeld=>?_)
  clear hK K
  refine nq 19 ?_
  refine pr 6 2 127 ?_
  refine done_ (by kernel_rfl) ?_
  try go_wp2
  go_ret
  exact ⟨_,rfl,by exact Kd.R_mono HO1629.out (fun _ hk=>trivial),bl HB⟩
 rw [if_neg c3] at H
 have c3b0:=decide_eq_false c3
 clear c3
 replace H:=Option.bind_eq_some_iff.mp H
 obtain ⟨t1630,A140,H⟩:=H
 replace H:((shares_total.f k l0_0).bind fun t1633=>((shares_whole.f (wrap64 (t1633 - a0_1))).bind fun bt1634=>((shares_equal.f k t1630 bt1634.1 bt1634.2).bind fun t1636=>(shares_claims_talmud.l0 k t1636 ([]:List (S23)) l0_0 (l0_0.length:Int) 0)))) = some r:=H
 have A14:=A_ A140
 clear A140
 replace H:=Option.bind_eq_some_iff.mp H
 obtain ⟨t1633,A150,H⟩:=H
 replace H:((shares_whole.f (wrap64 (t1633 - a0_1))).bind fun bt1634=>((shares_equal.f k t1630 bt1634.1 bt1634.2).bind fun t1636=>(shares_claims_talmud.l0 k t1636 ([]:List (S23)) l0_0 (l0_0.length:Int) 0))) = some r:=H
 have A15:=A_ A150
 clear A150
 replace H:=Option.bind_eq_some_iff.mp H
 obtain ⟨⟨t1634,t1635⟩,A160,H⟩:=H
 dsimp only at H
 have A16:=A_ A160
 clear A160
 replace H:=Option.bind_eq_some_iff.mp H
 obtain ⟨t1636,A170,H⟩:=H
 replace H:(shares_claims_talmud.l0 k t1636 ([]:List (S23)) l0_0 (l0_0.length:Int) 0) = some r:=H
 have A17:=A_ A170
 clear A170
 have H':=A_ H
 clear H
 go_enter Try.func100,Try.ntmps100
 try go_wp2_with (first | ((with_reducible refine gate_dst (N:=1) rfl ?_);refine bx 1 #[.slice A0_0 l0_0.length c0_0,.int .i64 a0_1] 94 ?_;intro gb1620 hg w18 hbox hb;have BK1620:=A_ hbox;have GW1620:=gw hg HB;have GE1620:=GW1620;replace HB:=bB HB hb;clear hb hbox hg))
 replace BK1620:=kD BK1620
 replace HB:=bD HB
 refine start_ (n:=7) (S:=fun w'=>w'.cell? ⟨gb1620,0,none⟩ = some (.slice A0_0 l0_0.length c0_0) ∧ w'.cell? ⟨gb1620,1,none⟩ = some (.int .i64 a0_1)) (ds:=[]) (ba 7 0) (by kernel_rfl) rfl rfl ⟨cz BK1620 0,cz BK1620 1⟩ (fun hHeld=>?_)
 generalize w18.drew = w19 at BK1620 HB hHeld ⊢
 refine pr 0 7 1 ?_
 refine pr 3 10 9 ?_
 refine tr 1 8 11 hHeld ?_
 refine pr 2 9 15 ?_
 refine tr 4 11 31 hHeld ?_
 refine os 5 12 63 (fun K hK=>?_)
 refine gq Try.func93 #[.slice A0_0 l0_0.length c0_0] ?_
 with_reducible refine (shares_total.calls k _ _ l0_0 t1621 _ ?side1 ?side2 A2.out).mono ?_
 (case side1=>exact cB HR0_0 HB)
 (case side2=>exact HC0_0.out)
 rintro e w' ⟨rfl,⟨nd,rfl⟩⟩
 refine ⟨_,rfl,?_⟩
 refine hz hK (fun hHeld=>?_)
 clear hK K
 refine nq 12 ?_
 refine pr 6 13 127 ?_
 refine done_ (by kernel_rfl) ?_
 try go_wp2
 (try (rw [drewN_self w19];generalize hq_:World.drewN w19 _ = w19;replace BK1620:Aside0 (w19.heap[gb1620]? = some (.cells #[.slice A0_0 l0_0.length c0_0,.int .i64 a0_1] 94 (0,0))):=⟨by rw [← hq_];exact BK1620.out⟩;replace HB:Aside0 (Below w.heap.size w w19):=⟨by rw [← hq_];exact (bl HB)⟩;clear hq_))
 replace BK1620:=kD BK1620
 replace HB:=bD HB
 refine st 11 (fun w'=>w'.cell? ⟨gb1620,0,none⟩ = some (.slice A0_0 l0_0.length c0_0) ∧ w'.cell? ⟨gb1620,1,none⟩ = some (.int .i64 a0_1)) [] shares_claims_talmud.tab3 shares_claims_talmud.bits3 (fun hHeld HT_ HW_=>?_)
 generalize w19.drew = w20 at BK1620 HB hHeld ⊢
 refine pq 2 22 4 HT_ ?_
 refine pq 5 25 36 HT_ ?_
 refine tq 0 20 37 HT_ HW_ hHeld ?_
 refine tq 3 23 45 HT_ HW_ hHeld ?_
 refine tq 6 26 109 HT_ HW_ hHeld ?_
 refine oq 1 21 111 HT_ (fun K hK=>?_)
 refine gq Try.func123 #[.agg #[.slice A0_0 l0_0.length c0_0,.int .i64 a0_1]] ?_
 with_reducible refine (shares_claims_halves.calls k _ _ l0_0 a0_1 t1630 _ ?side1 ?side2 A14.out).mono ?_
 (case side1=>exact cB HR0_0 HB)
 (case side2=>exact HC0_0.out)
 rintro e w21 ⟨v1631,rfl,ho0,hb⟩
 refine ⟨_,rfl,?_⟩
 have HO1632:=A_ (Kd.R_lower ho0 (below_size (bl HB)))
 replace BK1620:=kB BK1620 hb
 replace HB:=bB HB hb
 (try clear hb)
 refine hz hK (fun hHeld=>?_)
 clear hK K
 refine nq 21 ?_
 refine oq 4 24 127 HT_ (fun K hK=>?_)
 refine gq Try.func93 #[.slice A0_0 l0_0.length c0_0] ?_
 with_reducible refine (shares_total.calls k _ _ l0_0 t1633 _ ?side1 ?side2 A15.out).mono ?_
 (case side1=>exact cB HR0_0 HB)
 (case side2=>exact HC0_0.out)
 rintro e w' ⟨rfl,⟨nd,rfl⟩⟩
 refine ⟨_,rfl,?_⟩
 refine hz hK (fun hHeld=>?_)
 clear hK K
 refine nq 24 ?_
 refine pq 7 27 255 HT_ ?_
 refine oq 8 28 511 HT_ (fun K hK=>?_)
 refine gq Try.func64 #[.int .i64 (wrap64 (t1633 - a0_1))] ?_
 with_reducible refine (shares_whole.calls (wrap64 (t1633 - a0_1)) t1634 t1635 _ A16.out).mono ?_
 rintro e w22 ⟨rfl,hb⟩
 refine ⟨_,rfl,?_⟩
 replace HO1632:=rB HO1632 hb
 replace BK1620:=kB BK1620 hb
 replace HB:=bB HB hb
 (try clear hb)
 obtain ⟨Ao23,co23,eo23⟩:=Kd.R_slice HO1632.out
 (first | subst eo23 | (injection eo23 with f1_ f2_ f3_;have f4_:=f1_.symm;have f5_:=f3_.symm;clear f1_ f2_ f3_;subst f4_;subst f5_))
 refine hz hK (fun hHeld=>?_)
 clear hK K
 refine nq 28 ?_
 refine oq 9 29 1023 HT_ (fun K hK=>?_)
 refine gq Try.func122 #[.slice Ao23 t1630.length co23,.agg #[.int .i64 t1634,.int .i64 t1635]] ?_
 with_reducible refine (shares_equal.calls k _ _ t1630 t1634 t1635 t1636 _ ?side1 ?side2 A17.out).mono ?_
 (case side1=>repeat (first | exact (Kd.R_reads' HO1632.out).2.2 | (with_reducible refine Kd.C_alloc ?_ _) | (with_reducible refine Kd.C_drewN ?_ _) | (with_reducible refine Kd.C_drew ?_)))
 (case side2=>exact (Kd.R_reads' HO1632.out).2.1)
 rintro e w24 ⟨v1637,rfl,ho0,hb⟩
 refine ⟨_,rfl,?_⟩
 have HO1638:=A_ (Kd.R_lower (Kd.R_new' ho0 (Kd.R_lt HO1632.out)) (below_size HB.out))
 replace HO1632:=A_ (Kd.R_elder' HO1632.out (Kd.R_base ho0) hb)
 replace BK1620:=kB BK1620 hb
 replace HB:=bB HB hb
 (try clear hb)
 refine hz hK (fun hHeld=>?_)
 clear hK K
 refine nq 29 ?_
 refine pq 10 3 2047 HT_ ?_
 refine done_ (done_of HT_.out (by kernel_rfl)) ?_
 have hcz25_0:w24.cell? ⟨gb1620,0,none⟩ = some (.slice A0_0 l0_0.length c0_0):=cz BK1620 0
 have hcz25_1:w24.cell? ⟨gb1620,1,none⟩ = some (.int .i64 a0_1):=cz BK1620 1
 have hfz25_0:=blk_frozen BK1620.out 0
 have hfz25_1:=blk_frozen BK1620.out 1
 try go_wp2
 go_loopg [4,33] k (fun kq v4 v33 w'=>∃ (x4_1:List (S23)) (x33_1:Int),v33 = .int .i64 x33_1 ∧ Aside0 (shares_claims_talmud.l0 kq t1636 x4_1 l0_0 (l0_0.length:Int) x33_1 = some r) ∧ Aside0 (kq ≤ k) ∧ Aside0 (Kd.R k23 23 w' w.heap.size (fun k_=>some k_ ≠ (v4:Value).ownBlock) v1637 t1636) ∧ Aside0 (Kd.R k23 23 w' w.heap.size (fun k_=>some k_ ≠ (v1637:Value).ownBlock) v4 x4_1) ∧ Aside0 (w'.heap[gb1620]? = some (.cells #[(.slice A0_0 l0_0.length c0_0),.int .i64 a0_1] 94 (0,0))) ∧ Aside0 (Below w.heap.size w w'))
 case atStart=>exact ⟨(([]:List (S23))),(0),rfl,H',⟨Nat.le_refl _⟩,⟨by exact Kd.R_mono HO1638.out (fun _ hk=>(by simp [Value.ownBlock]))⟩,⟨by first | exact Kd.R_nil _ _ _ _ _ | exact Kd.N_nil _ _ _ _ _ | exact Kd.V_nil _ _ _ _ _ | exact Kd.Q_nil _ _ _ _ _ | exact Kd.S_nil _ _ _ _ _⟩,⟨by exact BK1620.out⟩,⟨bl HB⟩⟩
 case round =>
  clear H'
  obtain ⟨x4_1,x33_1,rfl,HA,HK1,HO_3,HO_4,BK1620,HB⟩:=hrel
  cases gk with
  | zero=>exact absurd HA.out (by simp [shares_claims_talmud.l0])
  | succ k1 =>
   have H:=HA.out
   clear HA
   simp only [shares_claims_talmud.l0] at H
   by_cases c26:x33_1 < (l0_0.length:Int)
   case neg =>
    rw [if_neg c26] at H
    have c26b0:=decide_eq_false c26
    clear c26
    obtain rfl:=Option.some.inj H
    go_wp2
    go_ret
    exact ⟨_,rfl,by exact Kd.R_mono HO_4.out (fun _ hk=>trivial),bl HB⟩
   rw [if_pos c26] at H
   have c26b0:=decide_eq_true c26
   clear c26
   replace H:=gd H
   obtain ⟨c27,H⟩:=H
   have c27b0:=decide_eq_true c27
   clear c27
   replace H:=gd H
   obtain ⟨c28,H⟩:=H
   have c28b0:=decide_eq_true c28
   clear c28
   replace H:=Option.bind_eq_some_iff.mp H
   obtain ⟨⟨t1640,t1641⟩,A290,H⟩:=H
   dsimp only at H
   have A29:=A_ A290
   clear A290
   replace H:=gd H
   obtain ⟨c30,H⟩:=H
   have c30b0:=decide_eq_true c30
   clear c30
   replace H:=Option.bind_eq_some_iff.mp H
   obtain ⟨⟨t1643,t1644⟩,A310,H⟩:=H
   dsimp only at H
   have A31:=A_ A310
   clear A310
   replace H:=gd H
   obtain ⟨c32,H⟩:=H
   have LMc32:=A_ c32
   clear c32
   obtain ⟨y1645,hy1645⟩:∃ y_:List (S23),y_ = (x4_1 ++ [(⟨t1643,t1644⟩:S23)]):=⟨_,rfl⟩
   replace H:(shares_claims_talmud.l0 k1 t1636 y1645 l0_0 (l0_0.length:Int) (wrap64 (x33_1 + 1))) = some r:=by rw [hy1645];exact H
   have Ny1645:=A_ hy1645
   clear hy1645
   have H':=A_ H
   clear H
   have p1639:0 ≤ (x33_1:Int):=of_decide_eq_true (by assumption)
   have q1639:x33_1 < (l0_0.length:Int):=of_decide_eq_true (by assumption)
   obtain ⟨ad1639,e1639,hx1639_0⟩:=Kd.at_int HR0_0.out x33_1 p1639 q1639
   cases e1639
   replace hx1639_0:=(HB.out.cell (World.block_lt_of_cell? w _ hx1639_0)).trans hx1639_0
   replace p1639:=eq_true p1639
   replace q1639:=eq_true q1639
   try go_wp2
   replace HO_3:=rD HO_3
   replace HO_4:=rD HO_4
   replace BK1620:=kD BK1620
   replace HB:=bD HB
   obtain ⟨Ao34,co34,eo34⟩:=Kd.R_slice HO_3.out
   (first | subst eo34 | (injection eo34 with f1_ f2_ f3_;have f4_:=f1_.symm;have f5_:=f3_.symm;clear f1_ f2_ f3_;subst f4_;subst f5_))
   have p1642:0 ≤ (x33_1:Int):=of_decide_eq_true (by assumption)
   have q1642:x33_1 < (t1636.length:Int):=of_decide_eq_true (by assumption)
   obtain ⟨ad1642,e1642,hx1642_0,hx1642_1⟩:=at_T23 (Kd.R_reads' HO_3.out).2.2 x33_1 p1642 q1642
   cases e1642
   replace p1642:=eq_true p1642
   replace q1642:=eq_true q1642
   refine start_ (n:=11) (S:=fun w'=>w'.cell? (ad1642.add ((x33_1).toNat * 2)) = some (.int .i64 ((rd_T23 t1636 x33_1).f0)) ∧ w'.cell? ⟨(ad1642.add ((x33_1).toNat * 2)).block,(ad1642.add ((x33_1).toNat * 2)).off + 1,none⟩ = some (.int .i64 ((rd_T23 t1636 x33_1).f1))) (ds:=[8,9]) (ba 11 0) (by kernel_rfl) rfl rfl ⟨hx1642_0,hx1642_1⟩ (fun hHeld=>?_);refine with_tabW shares_claims_talmud.tab8 shares_claims_talmud.bits8 (fun HT_ HW_=>?_)
   generalize wr.drew = w33 at HO_3 HO_4 BK1620 HB hx1642_0 hx1642_1 hHeld ⊢
   refine pq 0 38 1 HT_ ?_
   refine pq 1 39 3 HT_ ?_
   refine pq 3 41 11 HT_ ?_
   refine pq 4 42 27 HT_ ?_
   refine pq 5 43 59 HT_ ?_
   refine tq 6 44 123 HT_ HW_ hHeld ?_
   refine oq 2 40 127 HT_ (fun K hK=>?_)
   refine gq Try.func64 #[.int .i64 (rd l0_0 x33_1)] ?_
   with_reducible refine (shares_whole.calls (rd l0_0 x33_1) t1640 t1641 _ A29.out).mono ?_
   rintro e w35 ⟨rfl,hb⟩
   have HS0_:=(hb.cell (World.block_lt_of_cell? _ _ (hHeld.1))).trans (hHeld.1)
   have HS1_:=(hb.cell (World.block_lt_of_cell? _ _ (hHeld.2))).trans (hHeld.2)
   refine ⟨_,rfl,?_⟩
   replace HO_3:=rB HO_3 hb
   replace HO_4:=rB HO_4 hb
   replace BK1620:=kB BK1620 hb
   replace HB:=bB HB hb
   (try clear hb)
   refine hz hK (fun hHeld=>?_)
   clear hK K
   refine nq 40 ?_
   refine oq 7 45 255 HT_ (fun K hK=>?_)
   refine gq Try.func95 #[.agg #[.int .i64 t1640,.int .i64 t1641],.agg #[.int .i64 ((rd_T23 t1636 x33_1).f0),.int .i64 ((rd_T23 t1636 x33_1).f1)]] ?_
   with_reducible refine (shares_minus.calls k1 t1640 t1641 ((rd_T23 t1636 x33_1).f0) ((rd_T23 t1636 x33_1).f1) t1643 t1644 _ A31.out).mono ?_
   rintro e w36 ⟨rfl,hb⟩
   have HS0_:=(hb.cell (World.block_lt_of_cell? _ _ (hHeld.1))).trans (hHeld.1)
   have HS1_:=(hb.cell (World.block_lt_of_cell? _ _ (hHeld.2))).trans (hHeld.2)
   refine ⟨_,rfl,?_⟩
   replace HO_3:=rB HO_3 hb
   replace HO_4:=rB HO_4 hb
   replace BK1620:=kB BK1620 hb
   replace HB:=bB HB hb
   (try clear hb)
   refine hz hK (fun hHeld=>?_)
   clear hK K
   refine nq 45 ?_
   refine last_ (i:=8) (N:=some 46) (ba 11 511) rfl rfl (one_of HT_.out (by kernel_rfl)) (by decide) (fun K hK=>?_)
   refine value_ (w1:=?_) (v:=?_) (by rfl) rfl ?_ ?_
   rotate_left 2
   ·go_simp
    constructor
    ·rfl
    rfl
   refine hK.out _ _ ?_
   clear hK K
   refine nq 46 ?_
   refine last_ (i:=9) (N:=some 47) (ba 11 1023) rfl rfl (one_of HT_.out (by kernel_rfl)) (by decide) (fun K hK=>?_)
   refine Kd.R_append_step k23 (w0:=w) w.heap.size (by rfl) (.tmp 38) (.tmp 46) 35 23 (.agg #[(.int .i64 0),(.int .i64 0)]) 16 rfl Try.underlying35 info23 rfl (by decide) (by omega) u4 x4_1 (⟨t1643,t1644⟩:S23) [.int .i64 t1643,.int .i64 t1644] (fun k_=>some k_ ≠ (.slice (some ad1642) t1636.length co34:Value).ownBlock) (fun _=>False) rfl rfl ?aP (fun _ hk=>hk.elim) ?aF ?aO ?aB ?aS ?aL ?_
   (case aP=>exact k23_mkM _ _ _ (⟨t1643,t1644⟩:S23))
   (case aB=>exact HB.out)
   (case aF=>exact (fun k_ hk=>Kd.fresh' (Kd.R_lt HO_3.out) k_ hk))
   (case aO=>exact HO_4.out)
   (case aS=>exact (below_size HB.out))
   (case aL=>have:=LMc32.out;omega)
   intro v1646 w37 ho hb hg hat
   rw [← Ny1645.out] at ho
   have HO1647:=A_ ho
   replace HO_3:=A_ (Kd.R_after (ok:=(fun _=>True)) (by exact Kd.R_mono HO_3.out (fun _ hk=>⟨trivial,hk⟩)) hg hat)
   replace BK1620:=A_ (blk_grown BK1620.out hg (Kd.R_ne HO_4.out BK1620.out (by decide)))
   replace HB:=A_ hb
   clear HO_4 ho hb hg hat
   refine hK.out _ _ ?_
   clear hK K
   refine nq 47 ?_
   refine pq 10 4 2047 HT_ ?_
   refine done_ (done_of HT_.out (by kernel_rfl)) ?_
   try go_wp2
   go_roundg k1
   case measure=>have:=HK1.out;omega
   case rel=>exact ⟨(y1645),(wrap64 (x33_1 + 1)),rfl,H',⟨by have:=HK1.out;omega⟩,⟨by exact Kd.R_mono HO_3.out (fun _ hk=>hk.2)⟩,⟨by exact HO1647.out⟩,⟨by exact BK1620.out⟩,⟨bl HB⟩⟩
def shares_claims_piniles.l0:Nat → List (S23) → List (S23) → List (S23) → Int → Int → Option ((List (S23)))
 | 0,_,_,_,_,_=>none
 | k + 1,x3,x4,x32,x33,x34=>if x34 < x33 then (if 0 ≤ x34 then (if x34 < (x32.length:Int) then (if x34 < (x3.length:Int) then ((shares_add.f k ((rd_T23 x32 x34).f0) ((rd_T23 x32 x34).f1) ((rd_T23 x3 x34).f0) ((rd_T23 x3 x34).f1)).bind fun bt1677=>(if x4.length < 8796093022208 then (shares_claims_piniles.l0 k x3 (x4 ++ [(⟨bt1677.1,bt1677.2⟩:S23)]) x32 x33 (wrap64 (x34 + 1))) else (none))) else (none)) else (none)) else (none)) else (some x4)
def shares_claims_piniles.f (k:Nat) (l0_0:List Int) (a0_1:Int):Option ((List (S23))):=(shares_total.f k l0_0).bind fun t1649=>(if (wrap64 (2 * a0_1)) ≤ t1649 then ((shares_claims_halves.f k l0_0 a0_1).bind fun t1650=>((shares_whole.f a0_1).bind fun bt1653=>((shares_equal.f k t1650 bt1653.1 bt1653.2).bind fun t1655=>(some t1655)))) else ((shares_claims_halves.f k l0_0 a0_1).bind fun t1658=>((shares_whole.f a0_1).bind fun bt1661=>((shares_total.f k l0_0).bind fun t1663=>((shares_frac.f k t1663 2).bind fun bt1664=>((shares_minus.f k bt1661.1 bt1661.2 bt1664.1 bt1664.2).bind fun bt1666=>((shares_equal.f k t1658 bt1666.1 bt1666.2).bind fun t1668=>((shares_claims_halves.f k l0_0 a0_1).bind fun t1671=>(shares_claims_piniles.l0 k t1668 ([]:List (S23)) t1671 (t1671.length:Int) 0)))))))))
theorem shares_claims_piniles.mono_l:∀ k,(∀ y0 y1 y2 y3 y4,LeO (shares_claims_piniles.l0 k y0 y1 y2 y3 y4) (shares_claims_piniles.l0 (k + 1) y0 y1 y2 y3 y4))
 | 0=>fun _ _ _ _ _ r h=>by simp [shares_claims_piniles.l0] at h
 | k + 1=>by
  have ih0:=shares_claims_piniles.mono_l k
  intro y0 y1 y2 y3 y4
  unfold shares_claims_piniles.l0
  repeat' first
  | (with_reducible first | exact ih0 _ _ _ _ _ | exact shares_add.mono _ _ _ _ _ | exact shares_claims_halves.mono _ _ _ | exact shares_equal.mono _ _ _ _ | exact shares_frac.mono _ _ _ | exact shares_minus.mono _ _ _ _ _ | exact shares_total.mono _ _ | exact LeO.refl _ | exact LeO.none _ | refine LeO.ite ?_ ?_ | refine LeO.bind ?_ (fun _=>?_))
  | exact LeO.none _ | refine LeO.ite ?_ ?_ | refine LeO.bind ?_ (fun _=>?_)
theorem shares_claims_piniles.mono:∀ a0 a1 k,LeO (shares_claims_piniles.f k a0 a1) (shares_claims_piniles.f (k + 1) a0 a1):=by
 intro a0 a1 k
 have ih0:=shares_claims_piniles.mono_l k
 unfold shares_claims_piniles.f
 repeat' first
   | (with_reducible first | exact ih0 _ _ _ _ _ | exact shares_add.mono _ _ _ _ _ | exact shares_claims_halves.mono _ _ _ | exact shares_equal.mono _ _ _ _ | exact shares_frac.mono _ _ _ | exact shares_minus.mono _ _ _ _ _ | exact shares_total.mono _ _ | exact LeO.refl _ | exact LeO.none _ | refine LeO.ite ?_ ?_ | refine LeO.bind ?_ (fun _=>?_))
   | exact LeO.none _ | refine LeO.ite ?_ ?_ | refine LeO.bind ?_ (fun _=>?_)
def shares_claims_piniles.T3:Bool × List (List Nat × List Nat):=(true,[([],[]),([0],[0]),([],[]),([2],[2]),([3,1],[3]),([],[]),([5],[5]),([6,4],[6]),([7,7],[7]),([4,8,8],[4,8]),([1,9,9],[1,9]),([10,10,0,1,2,3,4,5,6,7,8,9,10],[10])])
def shares_claims_piniles.B3:List Nat:=[0,1,0,4,15,0,32,127,255,511,1023,2047]
theorem shares_claims_piniles.tab3:rtab .any (opsOf Try.f101 3) = shares_claims_piniles.T3:=by kernel_rfl
theorem shares_claims_piniles.bits3:waitsOk shares_claims_piniles.T3.2 shares_claims_piniles.B3 = true:=by kernel_rfl
def shares_claims_piniles.T8:Bool × List (List Nat × List Nat):=(true,[([],[]),([],[]),([],[]),([],[]),([2,3],[2,3]),([4],[4]),([1,5],[1,5]),([6],[6]),([0,7,6],[0,7]),([8,8,0,1,2,3,4,5,6,7,8],[0,8])])
def shares_claims_piniles.B8:List Nat:=[0,0,0,0,12,28,62,126,255,511]
theorem shares_claims_piniles.tab8:rtab .any (opsOf Try.f101 8) = shares_claims_piniles.T8:=by kernel_rfl
theorem shares_claims_piniles.bits8:waitsOk shares_claims_piniles.T8.2 shares_claims_piniles.B8 = true:=by kernel_rfl
theorem shares_claims_piniles.calls (k:Nat) (A0_0:Option Addr) (c0_0:Nat) (l0_0:List Int) (a0_1:Int) (r:List (S23)) (w:World) (hr0_0:Kd.C (Kd.int .i64) w A0_0 l0_0.length l0_0) (hc0_0:l0_0.length ≤ c0_0) (h:shares_claims_piniles.f k l0_0 a0_1 = some r) :
  Calls Try.prog 101 #[.agg #[.slice A0_0 l0_0.length c0_0,.int .i64 a0_1]] w fun e w'=>∃ v0_:Value,e = .returned (v0_) ∧ Kd.R k23 23 w' w.heap.size (fun _=>True) v0_ r ∧ Below w.heap.size w w':=by
 have hu94:=Try.underlying94
 have hu23:=Try.underlying23
 have HR0_0:=A_ hr0_0
 have HC0_0:=A_ hc0_0
 clear hr0_0 hc0_0
 have HB:=A_ (Below.refl w.heap.size w)
 have H:((shares_total.f k l0_0).bind fun t1649=>(if (wrap64 (2 * a0_1)) ≤ t1649 then ((shares_claims_halves.f k l0_0 a0_1).bind fun t1650=>((shares_whole.f a0_1).bind fun bt1653=>((shares_equal.f k t1650 bt1653.1 bt1653.2).bind fun t1655=>(some t1655)))) else ((shares_claims_halves.f k l0_0 a0_1).bind fun t1658=>((shares_whole.f a0_1).bind fun bt1661=>((shares_total.f k l0_0).bind fun t1663=>((shares_frac.f k t1663 2).bind fun bt1664=>((shares_minus.f k bt1661.1 bt1661.2 bt1664.1 bt1664.2).bind fun bt1666=>((shares_equal.f k t1658 bt1666.1 bt1666.2).bind fun t1668=>((shares_claims_halves.f k l0_0 a0_1).bind fun t1671=>(shares_claims_piniles.l0 k t1668 ([]:List (S23)) t1671 (t1671.length:Int) 0)))))))))) = some r:=h
 clear h
 replace H:=Option.bind_eq_some_iff.mp H
 obtain ⟨t1649,A20,H⟩:=H
 replace H:(if (wrap64 (2 * a0_1)) ≤ t1649 then ((shares_claims_halves.f k l0_0 a0_1).bind fun t1650=>((shares_whole.f a0_1).bind fun bt1653=>((shares_equal.f k t1650 bt1653.1 bt1653.2).bind fun t1655=>(some t1655)))) else ((shares_claims_halves.f k l0_0 a0_1).bind fun t1658=>((shares_whole.f a0_1).bind fun bt1661=>((shares_total.f k l0_0).bind fun t1663=>((shares_frac.f k t1663 2).bind fun bt1664=>((shares_minus.f k bt1661.1 bt1661.2 bt1664.1 bt1664.2).bind fun bt1666=>((shares_equal.f k t1658 bt1666.1 bt1666.2).bind fun t1668=>((shares_claims_halves.f k l0_0 a0_1).bind fun t1671=>(shares_claims_piniles.l0 k t1668 ([]:List (S23)) t1671 (t1671.length:Int) 0))))))))) = some r:=H
 have A2:=A_ A20
 clear A20
 by_cases c3:(wrap64 (2 * a0_1)) ≤ t1649
 ·rw [if_pos c3] at H
  have c3b0:=decide_eq_true c3
  clear c3
  replace H:=Option.bind_eq_some_iff.mp H
  obtain ⟨t1650,A40,H⟩:=H
  replace H:((shares_whole.f a0_1).bind fun bt1653=>((shares_equal.f k t1650 bt1653.1 bt1653.2).bind fun t1655=>(some t1655))) = some r:=H
  have A4:=A_ A40
  clear A40
  replace H:=Option.bind_eq_some_iff.mp H
  obtain ⟨⟨t1653,t1654⟩,A50,H⟩:=H
  dsimp only at H
  have A5:=A_ A50
  clear A50
  replace H:=Option.bind_eq_some_iff.mp H
  obtain ⟨t1655,A60,H⟩:=H
  replace H:(some t1655) = some r:=H
  have A6:=A_ A60
  clear A60
  obtain rfl:=Option.some.inj H
  go_enter Try.func101,Try.ntmps101
  try go_wp2_with (first | ((with_reducible refine gate_dst (N:=1) rfl ?_);refine bx 1 #[.slice A0_0 l0_0.length c0_0,.int .i64 a0_1] 94 ?_;intro gb1648 hg w7 hbox hb;have BK1648:=A_ hbox;have GW1648:=gw hg HB;have GE1648:=GW1648;replace HB:=bB HB hb;clear hb hbox hg))
  replace BK1648:=kD BK1648
  replace HB:=bD HB
  refine start_ (n:=7) (S:=fun w'=>w'.cell? ⟨gb1648,0,none⟩ = some (.slice A0_0 l0_0.length c0_0) ∧ w'.cell? ⟨gb1648,1,none⟩ = some (.int .i64 a0_1)) (ds:=[]) (ba 7 0) (by kernel_rfl) rfl rfl ⟨cz BK1648 0,cz BK1648 1⟩ (fun hHeld=>?_)
  generalize w7.drew = w8 at BK1648 HB hHeld ⊢
  refine pr 0 7 1 ?_
  refine pr 3 10 9 ?_
  refine tr 1 8 11 hHeld ?_
  refine pr 2 9 15 ?_
  refine tr 4 11 31 hHeld ?_
  refine os 5 12 63 (fun K hK=>?_)
  refine gq Try.func93 #[.slice A0_0 l0_0.length c0_0] ?_
  with_reducible refine (shares_total.calls k _ _ l0_0 t1649 _ ?side1 ?side2 A2.out).mono ?_
  (case side1=>exact cB HR0_0 HB)
  (case side2=>exact HC0_0.out)
  rintro e w' ⟨rfl,⟨nd,rfl⟩⟩
  refine ⟨_,rfl,?_⟩
  refine hz hK (fun hHeld=>?_)
  clear hK K
  refine nq 12 ?_
  refine pr 6 13 127 ?_
  refine done_ (by kernel_rfl) ?_
  try go_wp2
  (try (rw [drewN_self w8];generalize hq_:World.drewN w8 _ = w8;replace BK1648:Aside0 (w8.heap[gb1648]? = some (.cells #[.slice A0_0 l0_0.length c0_0,.int .i64 a0_1] 94 (0,0))):=⟨by rw [← hq_];exact BK1648.out⟩;replace HB:Aside0 (Below w.heap.size w w8):=⟨by rw [← hq_];exact (bl HB)⟩;clear hq_))
  replace BK1648:=kD BK1648
  replace HB:=bD HB
  refine start_ (n:=7) (S:=fun w'=>w'.cell? ⟨gb1648,0,none⟩ = some (.slice A0_0 l0_0.length c0_0) ∧ w'.cell? ⟨gb1648,1,none⟩ = some (.int .i64 a0_1)) (ds:=[]) (ba 7 0) (by kernel_rfl) rfl rfl ⟨cz BK1648 0,cz BK1648 1⟩ (fun hHeld=>?_)
  generalize w8.drew = w9 at BK1648 HB hHeld ⊢
  refine pr 2 16 4 ?_
  refine tr 0 14 5 hHeld ?_
  refine tr 3 17 13 hHeld ?_
  refine os 1 15 15 (fun K hK=>?_)
  refine gq Try.func123 #[.agg #[.slice A0_0 l0_0.length c0_0,.int .i64 a0_1]] ?_
  with_reducible refine (shares_claims_halves.calls k _ _ l0_0 a0_1 t1650 _ ?side1 ?side2 A4.out).mono ?_
  (case side1=>exact cB HR0_0 HB)
  (case side2=>exact HC0_0.out)
  rintro e w10 ⟨v1651,rfl,ho0,hb⟩
  refine ⟨_,rfl,?_⟩
  have HO1652:=A_ (Kd.R_lower ho0 (below_size (bl HB)))
  replace BK1648:=kB BK1648 hb
  replace HB:=bB HB hb
  (try clear hb)
  refine hz hK (fun hHeld=>?_)
  clear hK K
  refine nq 15 ?_
  refine os 4 18 31 (fun K hK=>?_)
  refine gq Try.func64 #[.int .i64 a0_1] ?_
  with_reducible refine (shares_whole.calls a0_1 t1653 t1654 _ A5.out).mono ?_
  rintro e w11 ⟨rfl,hb⟩
  refine ⟨_,rfl,?_⟩
  replace HO1652:=rB HO1652 hb
  replace BK1648:=kB BK1648 hb
  replace HB:=bB HB hb
  (try clear hb)
  obtain ⟨Ao12,co12,eo12⟩:=Kd.R_slice HO1652.out
  (first | subst eo12 | (injection eo12 with f1_ f2_ f3_;have f4_:=f1_.symm;have f5_:=f3_.symm;clear f1_ f2_ f3_;subst f4_;subst f5_))
  refine hz hK (fun hHeld=>?_)
  clear hK K
  refine nq 18 ?_
  refine os 5 19 63 (fun K hK=>?_)
  refine gq Try.func122 #[.slice Ao12 t1650.length co12,.agg #[.int .i64 t1653,.int .i64 t1654]] ?_
  with_reducible refine (shares_equal.calls k _ _ t1650 t1653 t1654 t1655 _ ?side1 ?side2 A6.out).mono ?_
  (case side1=>repeat (first | exact (Kd.R_reads' HO1652.out).2.2 | (with_reducible refine Kd.C_alloc ?_ _) | (with_reducible refine Kd.C_drewN ?_ _) | (with_reducible refine Kd.C_drew ?_)))
  (case side2=>exact (Kd.R_reads' HO1652.out).2.1)
  rintro e w13 ⟨v1656,rfl,ho0,hb⟩
  refine ⟨_,rfl,?_⟩
  have HO1657:=A_ (Kd.R_lower (Kd.R_new' ho0 (Kd.R_lt HO1652.out)) (below_size HB.out))
  replace HO1652:=A_ (Kd.R_elder' HO1652.out (Kd.R_base ho0) hb)
  replace BK1648:=kB BK1648 hb
  replace HB:=bB HB hb
  (try clear hb)
  refine hz hK (fun hHeld=>?_)
  clear hK K
  refine nq 19 ?_
  refine pr 6 2 127 ?_
  refine done_ (by kernel_rfl) ?_
  try go_wp2
  go_ret
  exact ⟨_,rfl,by exact Kd.R_mono HO1657.out (fun _ hk=>trivial),bl HB⟩
 rw [if_neg c3] at H
 have c3b0:=decide_eq_false c3
 clear c3
 replace H:=Option.bind_eq_some_iff.mp H
 obtain ⟨t1658,A140,H⟩:=H
 replace H:((shares_whole.f a0_1).bind fun bt1661=>((shares_total.f k l0_0).bind fun t1663=>((shares_frac.f k t1663 2).bind fun bt1664=>((shares_minus.f k bt1661.1 bt1661.2 bt1664.1 bt1664.2).bind fun bt1666=>((shares_equal.f k t1658 bt1666.1 bt1666.2).bind fun t1668=>((shares_claims_halves.f k l0_0 a0_1).bind fun t1671=>(shares_claims_piniles.l0 k t1668 ([]:List (S23)) t1671 (t1671.length:Int) 0))))))) = some r:=H
 have A14:=A_ A140
 clear A140
 replace H:=Option.bind_eq_some_iff.mp H
 obtain ⟨⟨t1661,t1662⟩,A150,H⟩:=H
 dsimp only at H
 have A15:=A_ A150
 clear A150
 replace H:=Option.bind_eq_some_iff.mp H
 obtain ⟨t1663,A160,H⟩:=H
 replace H:((shares_frac.f k t1663 2).bind fun bt1664=>((shares_minus.f k t1661 t1662 bt1664.1 bt1664.2).bind fun bt1666=>((shares_equal.f k t1658 bt1666.1 bt1666.2).bind fun t1668=>((shares_claims_halves.f k l0_0 a0_1).bind fun t1671=>(shares_claims_piniles.l0 k t1668 ([]:List (S23)) t1671 (t1671.length:Int) 0))))) = some r:=H
 have A16:=A_ A160
 clear A160
 replace H:=Option.bind_eq_some_iff.mp H
 obtain ⟨⟨t1664,t1665⟩,A170,H⟩:=H
 dsimp only at H
 have A17:=A_ A170
 clear A170
 replace H:=Option.bind_eq_some_iff.mp H
 obtain ⟨⟨t1666,t1667⟩,A180,H⟩:=H
 dsimp only at H
 have A18:=A_ A180
 clear A180
 replace H:=Option.bind_eq_some_iff.mp H
 obtain ⟨t1668,A190,H⟩:=H
 replace H:((shares_claims_halves.f k l0_0 a0_1).bind fun t1671=>(shares_claims_piniles.l0 k t1668 ([]:List (S23)) t1671 (t1671.length:Int) 0)) = some r:=H
 have A19:=A_ A190
 clear A190
 replace H:=Option.bind_eq_some_iff.mp H
 obtain ⟨t1671,A200,H⟩:=H
 replace H:(shares_claims_piniles.l0 k t1668 ([]:List (S23)) t1671 (t1671.length:Int) 0) = some r:=H
 have A20:=A_ A200
 clear A200
 have H':=A_ H
 clear H
 go_enter Try.func101,Try.ntmps101
 try go_wp2_with (first | ((with_reducible refine gate_dst (N:=1) rfl ?_);refine bx 1 #[.slice A0_0 l0_0.length c0_0,.int .i64 a0_1] 94 ?_;intro gb1648 hg w21 hbox hb;have BK1648:=A_ hbox;have GW1648:=gw hg HB;have GE1648:=GW1648;replace HB:=bB HB hb;clear hb hbox hg))
 replace BK1648:=kD BK1648
 replace HB:=bD HB
 refine start_ (n:=7) (S:=fun w'=>w'.cell? ⟨gb1648,0,none⟩ = some (.slice A0_0 l0_0.length c0_0) ∧ w'.cell? ⟨gb1648,1,none⟩ = some (.int .i64 a0_1)) (ds:=[]) (ba 7 0) (by kernel_rfl) rfl rfl ⟨cz BK1648 0,cz BK1648 1⟩ (fun hHeld=>?_)
 generalize w21.drew = w22 at BK1648 HB hHeld ⊢
 refine pr 0 7 1 ?_
 refine pr 3 10 9 ?_
 refine tr 1 8 11 hHeld ?_
 refine pr 2 9 15 ?_
 refine tr 4 11 31 hHeld ?_
 refine os 5 12 63 (fun K hK=>?_)
 refine gq Try.func93 #[.slice A0_0 l0_0.length c0_0] ?_
 with_reducible refine (shares_total.calls k _ _ l0_0 t1649 _ ?side1 ?side2 A2.out).mono ?_
 (case side1=>exact cB HR0_0 HB)
 (case side2=>exact HC0_0.out)
 rintro e w' ⟨rfl,⟨nd,rfl⟩⟩
 refine ⟨_,rfl,?_⟩
 refine hz hK (fun hHeld=>?_)
 clear hK K
 refine nq 12 ?_
 refine pr 6 13 127 ?_
 refine done_ (by kernel_rfl) ?_
 try go_wp2
 (try (rw [drewN_self w22];generalize hq_:World.drewN w22 _ = w22;replace BK1648:Aside0 (w22.heap[gb1648]? = some (.cells #[.slice A0_0 l0_0.length c0_0,.int .i64 a0_1] 94 (0,0))):=⟨by rw [← hq_];exact BK1648.out⟩;replace HB:Aside0 (Below w.heap.size w w22):=⟨by rw [← hq_];exact (bl HB)⟩;clear hq_))
 replace BK1648:=kD BK1648
 replace HB:=bD HB
 refine st 12 (fun w'=>w'.cell? ⟨gb1648,0,none⟩ = some (.slice A0_0 l0_0.length c0_0) ∧ w'.cell? ⟨gb1648,1,none⟩ = some (.int .i64 a0_1)) [] shares_claims_piniles.tab3 shares_claims_piniles.bits3 (fun hHeld HT_ HW_=>?_)
 generalize w22.drew = w23 at BK1648 HB hHeld ⊢
 refine pq 2 22 4 HT_ ?_
 refine pq 5 25 36 HT_ ?_
 refine tq 0 20 37 HT_ HW_ hHeld ?_
 refine tq 3 23 45 HT_ HW_ hHeld ?_
 refine tq 6 26 109 HT_ HW_ hHeld ?_
 refine oq 1 21 111 HT_ (fun K hK=>?_)
 refine gq Try.func123 #[.agg #[.slice A0_0 l0_0.length c0_0,.int .i64 a0_1]] ?_
 with_reducible refine (shares_claims_halves.calls k _ _ l0_0 a0_1 t1658 _ ?side1 ?side2 A14.out).mono ?_
 (case side1=>exact cB HR0_0 HB)
 (case side2=>exact HC0_0.out)
 rintro e w24 ⟨v1659,rfl,ho0,hb⟩
 refine ⟨_,rfl,?_⟩
 have HO1660:=A_ (Kd.R_lower ho0 (below_size (bl HB)))
 replace BK1648:=kB BK1648 hb
 replace HB:=bB HB hb
 (try clear hb)
 refine hz hK (fun hHeld=>?_)
 clear hK K
 refine nq 21 ?_
 refine oq 4 24 127 HT_ (fun K hK=>?_)
 refine gq Try.func64 #[.int .i64 a0_1] ?_
 with_reducible refine (shares_whole.calls a0_1 t1661 t1662 _ A15.out).mono ?_
 rintro e w25 ⟨rfl,hb⟩
 refine ⟨_,rfl,?_⟩
 replace HO1660:=rB HO1660 hb
 replace BK1648:=kB BK1648 hb
 replace HB:=bB HB hb
 (try clear hb)
 refine hz hK (fun hHeld=>?_)
 clear hK K
 refine nq 24 ?_
 refine oq 7 27 255 HT_ (fun K hK=>?_)
 refine gq Try.func93 #[.slice A0_0 l0_0.length c0_0] ?_
 with_reducible refine (shares_total.calls k _ _ l0_0 t1663 _ ?side1 ?side2 A16.out).mono ?_
 (case side1=>exact cB HR0_0 HB)
 (case side2=>exact HC0_0.out)
 rintro e w' ⟨rfl,⟨nd,rfl⟩⟩
 refine ⟨_,rfl,?_⟩
 refine hz hK (fun hHeld=>?_)
 clear hK K
 refine nq 27 ?_
 refine oq 8 28 511 HT_ (fun K hK=>?_)
 refine gq Try.func117 #[.int .i64 t1663,.int .i64 2] ?_
 with_reducible refine (shares_frac.calls k t1663 2 t1664 t1665 _ A17.out).mono ?_
 rintro e w26 ⟨rfl,hb⟩
 refine ⟨_,rfl,?_⟩
 replace HO1660:=rB HO1660 hb
 replace BK1648:=kB BK1648 hb
 replace HB:=bB HB hb
 (try clear hb)
 refine hz hK (fun hHeld=>?_)
 clear hK K
 refine nq 28 ?_
 refine oq 9 29 1023 HT_ (fun K hK=>?_)
 refine gq Try.func95 #[.agg #[.int .i64 t1661,.int .i64 t1662],.agg #[.int .i64 t1664,.int .i64 t1665]] ?_
 with_reducible refine (shares_minus.calls k t1661 t1662 t1664 t1665 t1666 t1667 _ A18.out).mono ?_
 rintro e w27 ⟨rfl,hb⟩
 refine ⟨_,rfl,?_⟩
 replace HO1660:=rB HO1660 hb
 replace BK1648:=kB BK1648 hb
 replace HB:=bB HB hb
 (try clear hb)
 obtain ⟨Ao28,co28,eo28⟩:=Kd.R_slice HO1660.out
 (first | subst eo28 | (injection eo28 with f1_ f2_ f3_;have f4_:=f1_.symm;have f5_:=f3_.symm;clear f1_ f2_ f3_;subst f4_;subst f5_))
 refine hz hK (fun hHeld=>?_)
 clear hK K
 refine nq 29 ?_
 refine oq 10 30 2047 HT_ (fun K hK=>?_)
 refine gq Try.func122 #[.slice Ao28 t1658.length co28,.agg #[.int .i64 t1666,.int .i64 t1667]] ?_
 with_reducible refine (shares_equal.calls k _ _ t1658 t1666 t1667 t1668 _ ?side1 ?side2 A19.out).mono ?_
 (case side1=>repeat (first | exact (Kd.R_reads' HO1660.out).2.2 | (with_reducible refine Kd.C_alloc ?_ _) | (with_reducible refine Kd.C_drewN ?_ _) | (with_reducible refine Kd.C_drew ?_)))
 (case side2=>exact (Kd.R_reads' HO1660.out).2.1)
 rintro e w29 ⟨v1669,rfl,ho0,hb⟩
 refine ⟨_,rfl,?_⟩
 have HO1670:=A_ (Kd.R_lower (Kd.R_new' ho0 (Kd.R_lt HO1660.out)) (below_size HB.out))
 replace HO1660:=A_ (Kd.R_elder' HO1660.out (Kd.R_base ho0) hb)
 replace BK1648:=kB BK1648 hb
 replace HB:=bB HB hb
 (try clear hb)
 refine hz hK (fun hHeld=>?_)
 clear hK K
 refine nq 30 ?_
 refine pq 11 3 4095 HT_ ?_
 refine done_ (done_of HT_.out (by kernel_rfl)) ?_
 have hcz30_0:w29.cell? ⟨gb1648,0,none⟩ = some (.slice A0_0 l0_0.length c0_0):=cz BK1648 0
 have hcz30_1:w29.cell? ⟨gb1648,1,none⟩ = some (.int .i64 a0_1):=cz BK1648 1
 have hfz30_0:=blk_frozen BK1648.out 0
 have hfz30_1:=blk_frozen BK1648.out 1
 try go_wp2_with (first | ((with_reducible refine gate_callee (f:=123) rfl ?_);refine gL (some 32) Try.func123 #[.agg #[.slice A0_0 l0_0.length c0_0,.int .i64 a0_1]] ?_;(with_reducible refine (shares_claims_halves.calls k _ _ l0_0 a0_1 t1671 _ ?side1 ?side2 A20.out).mono ?_);(case side1=>exact cB HR0_0 HB);(case side2=>exact HC0_0.out);rintro e w31 ⟨v1672,rfl,ho0,hb⟩;refine ⟨_,rfl,?_⟩;have HO1673:=A_ (Kd.R_lower (Kd.R_new' (Kd.R_new' ho0 (Kd.R_lt HO1660.out)) (Kd.R_lt HO1670.out)) (below_size HB.out));replace HO1660:=A_ (Kd.R_elder' HO1660.out (Kd.R_base ho0) hb);replace HO1670:=A_ (Kd.R_elder' HO1670.out (Kd.R_base ho0) hb);replace BK1648:=kB BK1648 hb;replace HB:=bB HB hb;(try clear hb);obtain ⟨Ao32,co32,eo32⟩:=Kd.R_slice HO1673.out;subst eo32))
 go_loopg [4,34] k (fun kq v4 v34 w'=>∃ (x4_1:List (S23)) (x34_1:Int),v34 = .int .i64 x34_1 ∧ Aside0 (shares_claims_piniles.l0 kq t1668 x4_1 t1671 (t1671.length:Int) x34_1 = some r) ∧ Aside0 (kq ≤ k) ∧ Aside0 (Kd.R k23 23 w' w.heap.size (fun k_=>some k_ ≠ (v4:Value).ownBlock ∧ some k_ ≠ ((.slice Ao32 t1671.length co32):Value).ownBlock) v1669 t1668) ∧ Aside0 (Kd.R k23 23 w' w.heap.size (fun k_=>some k_ ≠ (v1669:Value).ownBlock ∧ some k_ ≠ ((.slice Ao32 t1671.length co32):Value).ownBlock) v4 x4_1) ∧ Aside0 (Kd.R k23 23 w' w.heap.size (fun k_=>some k_ ≠ (v1669:Value).ownBlock ∧ some k_ ≠ (v4:Value).ownBlock) (.slice Ao32 t1671.length co32) t1671) ∧ Aside0 (w'.heap[gb1648]? = some (.cells #[(.slice A0_0 l0_0.length c0_0),.int .i64 a0_1] 94 (0,0))) ∧ Aside0 (Below w.heap.size w w'))
 case atStart=>exact ⟨(([]:List (S23))),(0),rfl,H',⟨Nat.le_refl _⟩,⟨by exact Kd.R_mono HO1670.out (fun _ hk=>⟨(by simp [Value.ownBlock]),hk.2⟩)⟩,⟨by first | exact Kd.R_nil _ _ _ _ _ | exact Kd.N_nil _ _ _ _ _ | exact Kd.V_nil _ _ _ _ _ | exact Kd.Q_nil _ _ _ _ _ | exact Kd.S_nil _ _ _ _ _⟩,⟨by exact Kd.R_mono HO1673.out (fun _ hk=>⟨hk.2,(by simp [Value.ownBlock])⟩)⟩,⟨by exact BK1648.out⟩,⟨bl HB⟩⟩
 case round =>
  clear H'
  obtain ⟨x4_1,x34_1,rfl,HA,HK1,HO_3,HO_4,HO_32,BK1648,HB⟩:=hrel
  cases gk with
  | zero=>exact absurd HA.out (by simp [shares_claims_piniles.l0])
  | succ k1 =>
   have H:=HA.out
   clear HA
   simp only [shares_claims_piniles.l0] at H
   by_cases c33:x34_1 < (t1671.length:Int)
   case neg =>
    rw [if_neg c33] at H
    have c33b0:=decide_eq_false c33
    clear c33
    obtain rfl:=Option.some.inj H
    go_wp2
    go_ret
    exact ⟨_,rfl,by exact Kd.R_mono HO_4.out (fun _ hk=>trivial),bl HB⟩
   rw [if_pos c33] at H
   have c33b0:=decide_eq_true c33
   clear c33
   replace H:=gd H
   obtain ⟨c34,H⟩:=H
   have c34b0:=decide_eq_true c34
   clear c34
   replace H:=gd H
   obtain ⟨c35,H⟩:=H
   have c35b0:=decide_eq_true c35
   clear c35
   replace H:=gd H
   obtain ⟨c36,H⟩:=H
   have c36b0:=decide_eq_true c36
   clear c36
   replace H:=Option.bind_eq_some_iff.mp H
   obtain ⟨⟨t1677,t1678⟩,A370,H⟩:=H
   dsimp only at H
   have A37:=A_ A370
   clear A370
   replace H:=gd H
   obtain ⟨c38,H⟩:=H
   have LMc38:=A_ c38
   clear c38
   obtain ⟨y1679,hy1679⟩:∃ y_:List (S23),y_ = (x4_1 ++ [(⟨t1677,t1678⟩:S23)]):=⟨_,rfl⟩
   replace H:(shares_claims_piniles.l0 k1 t1668 y1679 t1671 (t1671.length:Int) (wrap64 (x34_1 + 1))) = some r:=by rw [hy1679];exact H
   have Ny1679:=A_ hy1679
   clear hy1679
   have H':=A_ H
   clear H
   have p1674:0 ≤ (x34_1:Int):=of_decide_eq_true (by assumption)
   have q1674:x34_1 < (t1671.length:Int):=of_decide_eq_true (by assumption)
   obtain ⟨ad1674,e1674,hx1674_0,hx1674_1⟩:=at_T23 (Kd.R_reads' HO_32.out).2.2 x34_1 p1674 q1674
   cases e1674
   replace p1674:=eq_true p1674
   replace q1674:=eq_true q1674
   try go_wp2_with (first | ((with_reducible refine gate_dst (N:=6) rfl ?_);refine bx 6 #[.int .i64 0,.int .i64 0] 23 ?_;intro gb1675 hg w39 hbox hb;have BK1675:=A_ hbox;have GW1675:=gw hg HB;have GE1675:=GW1675;have NB1648_1675:=nl hg BK1648;have NB1675_1648:=ng hg BK1648;replace HO_3:=A_ (Kd.R_below (Kd.R_elderB HO_3.out gb1675 (Nat.le_of_eq hg.symm)) hb);replace HO_4:=A_ (Kd.R_below (Kd.R_elderB HO_4.out gb1675 (Nat.le_of_eq hg.symm)) hb);replace HO_32:=A_ (Kd.R_below (Kd.R_elderB HO_32.out gb1675 (Nat.le_of_eq hg.symm)) hb);replace BK1648:=kB BK1648 hb;replace HB:=bB HB hb;clear hb hbox hg;have hnb40:=NB1675_1648.out;have hnc40:=NB1648_1675.out;have hcz41_0:w39.cell? ⟨gb1675,0,none⟩ = some (.int .i64 0):=cz BK1675 0;have hcz41_1:w39.cell? ⟨gb1675,1,none⟩ = some (.int .i64 0):=cz BK1675 1;have hfz41_0:=blk_frozen BK1675.out 0;have hfz41_1:=blk_frozen BK1675.out 1))
   have n0_:Aside0 (Kd.R k23 23 ((w39.setCell ⟨gb1675,0,none⟩ (.int .i64 ((rd_T23 t1671 x34_1).f0))).setCell ⟨gb1675,1,none⟩ (.int .i64 ((rd_T23 t1671 x34_1).f1))) w.heap.size (fun k_=>some k_ ≠ (u4:Value).ownBlock ∧ some k_ ≠ (.slice (some ad1674) t1671.length co32:Value).ownBlock ∧ k_ ≠ gb1675) v1669 t1668):=⟨by exact Kd.R_mono (Kd.R_far (p:=⟨gb1675,1,none⟩) (Kd.R_far (p:=⟨gb1675,0,none⟩) (Kd.R_mono HO_3.out (fun k_ hk=>(⟨hk,hk.2⟩:_ ∧ k_ ≠ gb1675))) (fun _ hk=>hk.2) (.int .i64 ((rd_T23 t1671 x34_1).f0))) (fun _ hk=>hk.2) (.int .i64 ((rd_T23 t1671 x34_1).f1))) (fun _ hk=>⟨hk.1.1.1,⟨hk.1.1.2,hk.1.2⟩⟩)⟩
   have n1_:Aside0 (Kd.R k23 23 ((w39.setCell ⟨gb1675,0,none⟩ (.int .i64 ((rd_T23 t1671 x34_1).f0))).setCell ⟨gb1675,1,none⟩ (.int .i64 ((rd_T23 t1671 x34_1).f1))) w.heap.size (fun k_=>some k_ ≠ (v1669:Value).ownBlock ∧ some k_ ≠ (.slice (some ad1674) t1671.length co32:Value).ownBlock ∧ k_ ≠ gb1675) u4 x4_1):=⟨by exact Kd.R_mono (Kd.R_far (p:=⟨gb1675,1,none⟩) (Kd.R_far (p:=⟨gb1675,0,none⟩) (Kd.R_mono HO_4.out (fun k_ hk=>(⟨hk,hk.2⟩:_ ∧ k_ ≠ gb1675))) (fun _ hk=>hk.2) (.int .i64 ((rd_T23 t1671 x34_1).f0))) (fun _ hk=>hk.2) (.int .i64 ((rd_T23 t1671 x34_1).f1))) (fun _ hk=>⟨hk.1.1.1,⟨hk.1.1.2,hk.1.2⟩⟩)⟩
   have n2_:Aside0 (Kd.R k23 23 ((w39.setCell ⟨gb1675,0,none⟩ (.int .i64 ((rd_T23 t1671 x34_1).f0))).setCell ⟨gb1675,1,none⟩ (.int .i64 ((rd_T23 t1671 x34_1).f1))) w.heap.size (fun k_=>some k_ ≠ (v1669:Value).ownBlock ∧ some k_ ≠ (u4:Value).ownBlock ∧ k_ ≠ gb1675) (.slice (some ad1674) t1671.length co32) t1671):=⟨by exact Kd.R_mono (Kd.R_far (p:=⟨gb1675,1,none⟩) (Kd.R_far (p:=⟨gb1675,0,none⟩) (Kd.R_mono HO_32.out (fun k_ hk=>(⟨hk,hk.2⟩:_ ∧ k_ ≠ gb1675))) (fun _ hk=>hk.2) (.int .i64 ((rd_T23 t1671 x34_1).f0))) (fun _ hk=>hk.2) (.int .i64 ((rd_T23 t1671 x34_1).f1))) (fun _ hk=>⟨hk.1.1.1,⟨hk.1.1.2,hk.1.2⟩⟩)⟩
   have n3_:Aside0 (((w39.setCell ⟨gb1675,0,none⟩ (.int .i64 ((rd_T23 t1671 x34_1).f0))).setCell ⟨gb1675,1,none⟩ (.int .i64 ((rd_T23 t1671 x34_1).f1))).heap[gb1648]? = some (.cells #[.slice A0_0 l0_0.length c0_0,.int .i64 a0_1] 94 (0,0))):=⟨by refine blk_far ?_ NB1648_1675.out _;refine blk_far ?_ NB1648_1675.out _;exact BK1648.out⟩
   have n4_:Aside0 (((w39.setCell ⟨gb1675,0,none⟩ (.int .i64 ((rd_T23 t1671 x34_1).f0))).setCell ⟨gb1675,1,none⟩ (.int .i64 ((rd_T23 t1671 x34_1).f1))).heap[gb1675]? = some (.cells #[.int .i64 ((rd_T23 t1671 x34_1).f0),.int .i64 ((rd_T23 t1671 x34_1).f1)] 23 (0,0))):=⟨by refine blk_put (cs:=#[.int .i64 ((rd_T23 t1671 x34_1).f0),.int .i64 0]) ?_ 1 _ rfl;refine blk_put (cs:=#[.int .i64 0,.int .i64 0]) ?_ 0 _ rfl;exact BK1675.out⟩
   have n5_:Aside0 (Below w.heap.size w ((w39.setCell ⟨gb1675,0,none⟩ (.int .i64 ((rd_T23 t1671 x34_1).f0))).setCell ⟨gb1675,1,none⟩ (.int .i64 ((rd_T23 t1671 x34_1).f1)))):=⟨bl HB⟩
   generalize ((w39.setCell ⟨gb1675,0,none⟩ (.int .i64 ((rd_T23 t1671 x34_1).f0))).setCell ⟨gb1675,1,none⟩ (.int .i64 ((rd_T23 t1671 x34_1).f1))) = w42 at n0_ n1_ n2_ n3_ n4_ n5_ ⊢
   have HO_3:=n0_
   have HO_4:=n1_
   have HO_32:=n2_
   have BK1648:=n3_
   have BK1675:=n4_
   have HB:=n5_
   clear n0_ n1_ n2_ n3_ n4_ n5_
   replace HO_3:=rD HO_3
   replace HO_4:=rD HO_4
   replace HO_32:=rD HO_32
   replace BK1648:=kD BK1648
   replace BK1675:=kD BK1675
   replace HB:=bD HB
   obtain ⟨Ao44,co44,eo44⟩:=Kd.R_slice HO_3.out
   (first | subst eo44 | (injection eo44 with f1_ f2_ f3_;have f4_:=f1_.symm;have f5_:=f3_.symm;clear f1_ f2_ f3_;subst f4_;subst f5_))
   have p1676:0 ≤ (x34_1:Int):=of_decide_eq_true (by assumption)
   have q1676:x34_1 < (t1668.length:Int):=of_decide_eq_true (by assumption)
   obtain ⟨ad1676,e1676,hx1676_0,hx1676_1⟩:=at_T23 (Kd.R_reads' HO_3.out).2.2 x34_1 p1676 q1676
   cases e1676
   replace p1676:=eq_true p1676
   replace q1676:=eq_true q1676
   refine start_ (n:=10) (S:=fun w'=>w'.cell? ⟨gb1675,0,none⟩ = some (.int .i64 ((rd_T23 t1671 x34_1).f0)) ∧ w'.cell? ⟨gb1675,1,none⟩ = some (.int .i64 ((rd_T23 t1671 x34_1).f1)) ∧ w'.cell? (ad1676.add ((x34_1).toNat * 2)) = some (.int .i64 ((rd_T23 t1668 x34_1).f0)) ∧ w'.cell? ⟨(ad1676.add ((x34_1).toNat * 2)).block,(ad1676.add ((x34_1).toNat * 2)).off + 1,none⟩ = some (.int .i64 ((rd_T23 t1668 x34_1).f1))) (ds:=[7,8]) (ba 10 0) (by kernel_rfl) rfl rfl ⟨cz BK1675 0,cz BK1675 1,hx1676_0,hx1676_1⟩ (fun hHeld=>?_);refine with_tabW shares_claims_piniles.tab8 shares_claims_piniles.bits8 (fun HT_ HW_=>?_)
   generalize w42.drew = w43 at HO_3 HO_4 HO_32 BK1648 BK1675 HB hx1676_0 hx1676_1 hHeld ⊢
   refine pq 0 39 1 HT_ ?_
   refine pq 2 41 5 HT_ ?_
   refine pq 3 42 13 HT_ ?_
   refine pq 4 43 29 HT_ ?_
   refine tq 1 40 31 HT_ HW_ hHeld ?_
   refine tq 5 44 63 HT_ HW_ hHeld ?_
   refine oq 6 45 127 HT_ (fun K hK=>?_)
   refine gq Try.func88 #[.agg #[.int .i64 ((rd_T23 t1671 x34_1).f0),.int .i64 ((rd_T23 t1671 x34_1).f1)],.agg #[.int .i64 ((rd_T23 t1668 x34_1).f0),.int .i64 ((rd_T23 t1668 x34_1).f1)]] ?_
   with_reducible refine (shares_add.calls k1 ((rd_T23 t1671 x34_1).f0) ((rd_T23 t1671 x34_1).f1) ((rd_T23 t1668 x34_1).f0) ((rd_T23 t1668 x34_1).f1) t1677 t1678 _ A37.out).mono ?_
   rintro e w45 ⟨rfl,hb⟩
   have HS2_:=(hb.cell (World.block_lt_of_cell? _ _ (hHeld.2.2.1))).trans (hHeld.2.2.1)
   have HS3_:=(hb.cell (World.block_lt_of_cell? _ _ (hHeld.2.2.2))).trans (hHeld.2.2.2)
   refine ⟨_,rfl,?_⟩
   replace HO_3:=rB HO_3 hb
   replace HO_4:=rB HO_4 hb
   replace HO_32:=rB HO_32 hb
   replace BK1648:=kB BK1648 hb
   replace BK1675:=kB BK1675 hb
   replace HB:=bB HB hb
   (try clear hb)
   refine hz hK (fun hHeld=>?_)
   clear hK K
   refine nq 45 ?_
   refine last_ (i:=7) (N:=some 46) (ba 10 255) rfl rfl (one_of HT_.out (by kernel_rfl)) (by decide) (fun K hK=>?_)
   refine value_ (w1:=?_) (v:=?_) (by rfl) rfl ?_ ?_
   rotate_left 2
   ·go_simp
    constructor
    ·rfl
    rfl
   refine hK.out _ _ ?_
   clear hK K
   refine nq 46 ?_
   refine last_ (i:=8) (N:=some 47) (ba 10 511) rfl rfl (one_of HT_.out (by kernel_rfl)) (by decide) (fun K hK=>?_)
   refine Kd.R_append_step k23 (w0:=w) w.heap.size (by rfl) (.tmp 39) (.tmp 46) 35 23 (.agg #[(.int .i64 0),(.int .i64 0)]) 16 rfl Try.underlying35 info23 rfl (by decide) (by omega) u4 x4_1 (⟨t1677,t1678⟩:S23) [.int .i64 t1677,.int .i64 t1678] (fun k_=>some k_ ≠ (.slice (some ad1676) t1668.length co44:Value).ownBlock ∧ some k_ ≠ (.slice (some ad1674) t1671.length co32:Value).ownBlock ∧ k_ ≠ gb1675) (fun _=>False) rfl rfl ?aP (fun _ hk=>hk.elim) ?aF ?aO ?aB ?aS ?aL ?_
   (case aP=>exact k23_mkM _ _ _ (⟨t1677,t1678⟩:S23))
   (case aB=>exact HB.out)
   (case aF=>exact (fun k_ hk=>⟨Kd.fresh' (Kd.R_lt HO_3.out) k_ hk,Kd.fresh' (Kd.R_lt HO_32.out) k_ hk,Kd.freshB (g:=gb1675) (o:=.cells #[.int .i64 ((rd_T23 t1671 x34_1).f0),.int .i64 ((rd_T23 t1671 x34_1).f1)] 23 (0,0)) BK1675.out k_ hk⟩))
   (case aO=>exact HO_4.out)
   (case aS=>exact (below_size HB.out))
   (case aL=>have:=LMc38.out;omega)
   intro v1680 w46 ho hb hg hat
   rw [← Ny1679.out] at ho
   have HO1681:=A_ ho
   replace HO_3:=A_ (Kd.R_after (ok:=(fun k_=>some k_ ≠ (.slice (some ad1674) t1671.length co32:Value).ownBlock ∧ k_ ≠ gb1675)) (by exact Kd.R_mono HO_3.out (fun _ hk=>⟨⟨hk.2.1,hk.2.2⟩,hk.1⟩)) hg hat)
   replace HO_32:=A_ (Kd.R_after (ok:=(fun k_=>some k_ ≠ (.slice (some ad1676) t1668.length co44:Value).ownBlock ∧ k_ ≠ gb1675)) (by exact Kd.R_mono HO_32.out (fun _ hk=>⟨⟨hk.1,hk.2.2⟩,hk.2.1⟩)) hg hat)
   replace BK1648:=A_ (blk_grown BK1648.out hg (Kd.R_ne HO_4.out BK1648.out (by decide)))
   replace BK1675:=A_ (blk_grown BK1675.out hg (Kd.R_away HO_4.out (fun _ hk=>hk.2.2)))
   replace HB:=A_ hb
   clear HO_4 ho hb hg hat
   refine hK.out _ _ ?_
   clear hK K
   refine nq 47 ?_
   refine pq 9 4 1023 HT_ ?_
   refine done_ (done_of HT_.out (by kernel_rfl)) ?_
   try go_wp2
   go_roundg k1
   case measure=>have:=HK1.out;omega
   case rel=>exact ⟨(y1679),(wrap64 (x34_1 + 1)),rfl,H',⟨by have:=HK1.out;omega⟩,⟨by exact Kd.R_mono HO_3.out (fun _ hk=>⟨hk.2,hk.1.1⟩)⟩,⟨by exact Kd.R_mono HO1681.out (fun _ hk=>⟨hk.1,hk.2.1⟩)⟩,⟨by exact Kd.R_mono HO_32.out (fun _ hk=>⟨hk.1.1,hk.2⟩)⟩,⟨by exact BK1648.out⟩,⟨bl HB⟩⟩
end Go.Proofs.Ytjohcjfmlhihbaa.G
namespace Go.Proofs.Ytjohcjfmlhihbaa.G
open Go Go.RowKit Go.Shelf Go.Proofs.Ytjohcjfmlhihbaa.H Go.Proofs.YtjohcjfmlhihbaaW.PrintWords
attribute [local go_sem] Oper.semAt_some wide_fn
def boundF (f:Nat) (A:Option Addr) (n c:Nat) (e:Int):Value:=.func (.func f) #[.agg #[.slice A n c,.int .i64 e]] #[]
def rulesM (A:Option Addr) (n c:Nat) (e:Int):Array MapEntry :=
 #[⟨.int .i64 0,boundF 97 A n c e,0⟩,⟨.int .i64 1,boundF 98 A n c e,1⟩,⟨.int .i64 2,boundF 99 A n c e,2⟩,⟨.int .i64 3,boundF 100 A n c e,3⟩,⟨.int .i64 4,boundF 101 A n c e,4⟩]
theorem gate_none {P:Program} {ops:Array Oper} {rest:List Oper} {o:Oper} {a:Act} {Q:Exit → Act → World → Prop} {w:World} (_h:o.dst = none) (h:wpList P ops Q (o :: rest) a w):wpList P ops Q (o :: rest) a w:=h
set_option maxHeartbeats 8000000 in
set_option maxRecDepth 100000 in
theorem rules_any (A:Option Addr) (n c:Nat) (e0:Int) (w:World) :
  Calls Try.prog 68 #[.agg #[.slice A n c,.int .i64 e0]] w fun e w'=>∃ b,e = .returned (.map (some b)) ∧ w'.heap[b]? = some (.map (rulesM A n c e0) 5) ∧ w.heap.size ≤ b ∧ Below w.heap.size w w':=by
 have hu94:=Try.underlying94
 have HB:=Aside0.mk (Below.refl w.heap.size w)
 go_enter Try.func68,Try.ntmps68
 go_wp2_with (first | ((with_reducible refine gate_dst (N:=1) rfl ?_);refine box_event ?hg (N:=1) ?hd (cs:=#[.slice A n c,.int .i64 e0]) (t:=94) ?hr ?_;(case hd=>rfl);(case hg=>rfl);(case hr=>first | (go_simp;done) | (go_simp;rfl));intro gbC hg w2 hbox hb;have n0_:=Aside0.mk (below_step HB.out hb);have n1_:=Aside0.mk hbox;clear HB;have HB:=n0_;have BKC:=n1_;clear n0_ n1_;clear hb hbox hg) | ((with_reducible refine gate_dst (N:=3) rfl ?_);refine map_event rfl 104 rfl ?_;intro gbM hg w3 hmap hb;have n0_:=Aside0.mk (below_step HB.out hb);have n1_:=Aside0.mk hmap;have n2_:=Aside0.mk (blk_below BKC.out hb);have n3_:=Aside0.mk (by rw [hg];exact HB.out.size:w.heap.size ≤ gbM);have n4_:=Aside0.mk (by rw [hg];exact Nat.ne_of_lt (blk_lt BKC.out):gbC ≠ gbM);clear HB BKC;have HB:=n0_;have HM:=n1_;have BKC:=n2_;have GEM:=n3_;have NEM:=n4_;clear n0_ n1_ n2_ n3_ n4_;clear hb hmap hg;have hczC:=(blk_cell BKC.out 0).trans rfl;have hczC1:=(blk_cell BKC.out 1).trans rfl) | ((with_reducible refine gate_none rfl ?_);refine insert_new _ rfl (.tmp 3) (.const (.int .i64 0)) (.tmp 5) 104 3 102 rfl Try.underlying104 Try.underlying3 gbM #[] 0 rfl HM.out 0 (boundF 97 A n c e0) rfl rfl (by rfl) ?_;intro w4 hm hg;have n0_:=Aside0.mk (HB.out.grown hg HB.out.size (fun k e=>by injection e with e;rw [← e];exact GEM.out));have n1_:=Aside0.mk (show w4.heap[gbM]? = some (.map #[⟨.int .i64 0,boundF 97 A n c e0,0⟩] 1) from hm);have n2_:=Aside0.mk (blk_grown BKC.out hg (fun e=>NEM.out (by injection e)));clear HB HM BKC;(try clear hczC hczC1);have HB:=n0_;have HM:=n1_;have BKC:=n2_;clear n0_ n1_ n2_;clear hm hg;have hczC:=(blk_cell BKC.out 0).trans rfl;have hczC1:=(blk_cell BKC.out 1).trans rfl) | ((with_reducible refine gate_none rfl ?_);refine insert_new _ rfl (.tmp 3) (.const (.int .i64 1)) (.tmp 7) 104 3 102 rfl Try.underlying104 Try.underlying3 gbM #[⟨.int .i64 0,boundF 97 A n c e0,0⟩] 1 rfl HM.out 1 (boundF 98 A n c e0) rfl rfl (by rfl) ?_;intro w4 hm hg;have n0_:=Aside0.mk (HB.out.grown hg HB.out.size (fun k e=>by injection e with e;rw [← e];exact GEM.out));have n1_:=Aside0.mk (show w4.heap[gbM]? = some (.map #[⟨.int .i64 0,boundF 97 A n c e0,0⟩,⟨.int .i64 1,boundF 98 A n c e0,1⟩] 2) from hm);have n2_:=Aside0.mk (blk_grown BKC.out hg (fun e=>NEM.out (by injection e)));clear HB HM BKC;(try clear hczC hczC1);have HB:=n0_;have HM:=n1_;have BKC:=n2_;clear n0_ n1_ n2_;clear hm hg;have hczC:=(blk_cell BKC.out 0).trans rfl;have hczC1:=(blk_cell BKC.out 1).trans rfl) | ((with_reducible refine gate_none rfl ?_);refine insert_new _ rfl (.tmp 3) (.const (.int .i64 2)) (.tmp 9) 104 3 102 rfl Try.underlying104 Try.underlying3 gbM #[⟨.int .i64 0,boundF 97 A n c e0,0⟩,⟨.int .i64 1,boundF 98 A n c e0,1⟩] 2 rfl HM.out 2 (boundF 99 A n c e0) rfl rfl (by rfl) ?_;intro w4 hm hg;have n0_:=Aside0.mk (HB.out.grown hg HB.out.size (fun k e=>by injection e with e;rw [← e];exact GEM.out));have n1_:=Aside0.mk (show w4.heap[gbM]? = some (.map #[⟨.int .i64 0,boundF 97 A n c e0,0⟩,⟨.int .i64 1,boundF 98 A n c e0,1⟩,⟨.int .i64 2,boundF 99 A n c e0,2⟩] 3) from hm);have n2_:=Aside0.mk (blk_grown BKC.out hg (fun e=>NEM.out (by injection e)));clear HB HM BKC;(try clear hczC hczC1);have HB:=n0_;have HM:=n1_;have BKC:=n2_;clear n0_ n1_ n2_;clear hm hg;have hczC:=(blk_cell BKC.out 0).trans rfl;have hczC1:=(blk_cell BKC.out 1).trans rfl) | ((with_reducible refine gate_none rfl ?_);refine insert_new _ rfl (.tmp 3) (.const (.int .i64 3)) (.tmp 11) 104 3 102 rfl Try.underlying104 Try.underlying3 gbM #[⟨.int .i64 0,boundF 97 A n c e0,0⟩,⟨.int .i64 1,boundF 98 A n c e0,1⟩,⟨.int .i64 2,boundF 99 A n c e0,2⟩] 3 rfl HM.out 3 (boundF 100 A n c e0) rfl rfl (by rfl) ?_;intro w4 hm hg;have n0_:=Aside0.mk (HB.out.grown hg HB.out.size (fun k e=>by injection e with e;rw [← e];exact GEM.out));have n1_:=Aside0.mk (show w4.heap[gbM]? = some (.map #[⟨.int .i64 0,boundF 97 A n c e0,0⟩,⟨.int .i64 1,boundF 98 A n c e0,1⟩,⟨.int .i64 2,boundF 99 A n c e0,2⟩,⟨.int .i64 3,boundF 100 A n c e0,3⟩] 4) from hm);have n2_:=Aside0.mk (blk_grown BKC.out hg (fun e=>NEM.out (by injection e)));clear HB HM BKC;(try clear hczC hczC1);have HB:=n0_;have HM:=n1_;have BKC:=n2_;clear n0_ n1_ n2_;clear hm hg;have hczC:=(blk_cell BKC.out 0).trans rfl;have hczC1:=(blk_cell BKC.out 1).trans rfl) | ((with_reducible refine gate_none rfl ?_);refine insert_new _ rfl (.tmp 3) (.const (.int .i64 4)) (.tmp 13) 104 3 102 rfl Try.underlying104 Try.underlying3 gbM #[⟨.int .i64 0,boundF 97 A n c e0,0⟩,⟨.int .i64 1,boundF 98 A n c e0,1⟩,⟨.int .i64 2,boundF 99 A n c e0,2⟩,⟨.int .i64 3,boundF 100 A n c e0,3⟩] 4 rfl HM.out 4 (boundF 101 A n c e0) rfl rfl (by rfl) ?_;intro w4 hm hg;have n0_:=Aside0.mk (HB.out.grown hg HB.out.size (fun k e=>by injection e with e;rw [← e];exact GEM.out));have n1_:=Aside0.mk (show w4.heap[gbM]? = some (.map #[⟨.int .i64 0,boundF 97 A n c e0,0⟩,⟨.int .i64 1,boundF 98 A n c e0,1⟩,⟨.int .i64 2,boundF 99 A n c e0,2⟩,⟨.int .i64 3,boundF 100 A n c e0,3⟩,⟨.int .i64 4,boundF 101 A n c e0,4⟩] 5) from hm);have n2_:=Aside0.mk (blk_grown BKC.out hg (fun e=>NEM.out (by injection e)));clear HB HM BKC;(try clear hczC hczC1);have HB:=n0_;have HM:=n1_;have BKC:=n2_;clear n0_ n1_ n2_;clear hm hg;have hczC:=(blk_cell BKC.out 0).trans rfl;have hczC1:=(blk_cell BKC.out 1).trans rfl))
 go_ret
 exact ⟨gbM,rfl,HM.out,GEM.out,HB.out⟩
def shares_Award.f (k:Nat) (a0:Int) (l1:List Int) (a2:Int):Option ((List (S23)) × (Int)) :=
 (newClaimsR.f k l1 a2).bind fun ok=>if ok = true then
  (if a0 = 0 then (shares_claims_proportional.f k l1 a2).bind fun x=>some (x,0)
  else if a0 = 1 then (shares_claims_awards.f k l1 a2).bind fun x=>some (x,0)
  else if a0 = 2 then (shares_claims_losses.f k l1 a2).bind fun x=>some (x,0)
  else if a0 = 3 then (shares_claims_talmud.f k l1 a2).bind fun x=>some (x,0)
  else if a0 = 4 then (shares_claims_piniles.f k l1 a2).bind fun x=>some (x,0)
  else some ([],2)) else some ([],2)
theorem shares_Award.mono:∀ a0 l1 a2 k,LeO (shares_Award.f k a0 l1 a2) (shares_Award.f (k + 1) a0 l1 a2):=by
 intro a0 l1 a2 k
 unfold shares_Award.f
 refine LeO.bind (newClaimsR.mono _ _ _) (fun _=>LeO.ite ?_ (LeO.refl _))
 refine LeO.ite (LeO.bind (shares_claims_proportional.mono _ _ _) (fun _=>LeO.refl _)) ?_
 refine LeO.ite (LeO.bind (shares_claims_awards.mono _ _ _) (fun _=>LeO.refl _)) ?_
 refine LeO.ite (LeO.bind (shares_claims_losses.mono _ _ _) (fun _=>LeO.refl _)) ?_
 refine LeO.ite (LeO.bind (shares_claims_talmud.mono _ _ _) (fun _=>LeO.refl _)) ?_
 exact LeO.ite (LeO.bind (shares_claims_piniles.mono _ _ _) (fun _=>LeO.refl _)) (LeO.refl _)
set_option maxHeartbeats 8000000 in
set_option maxRecDepth 100000 in
theorem shares_Award.calls (k:Nat) (a0:Int) (A1:Option Addr) (c1:Nat) (l1:List Int) (a2:Int) (r1:List (S23)) (r2:Int) (w:World) (hr1:Kd.C (Kd.int .i64) w A1 l1.length l1) (hc1:l1.length ≤ c1) (h:shares_Award.f k a0 l1 a2 = some (r1,r2)) :
  Calls Try.prog 26 #[.int .i64 a0,.slice A1 l1.length c1,.int .i64 a2] w fun e w'=>∃ v0_:Value,e = .returned (.tuple #[v0_,.int .i64 r2]) ∧ Kd.R k23 23 w' w.heap.size (fun _=>True) v0_ r1 ∧ Below w.heap.size w w':=by
 have hu94:=Try.underlying94
 have HR1:=Aside0.mk hr1
 have HC1:=Aside0.mk hc1
 clear hr1 hc1
 have HB:=Aside0.mk (Below.refl w.heap.size w)
 unfold shares_Award.f at h
 obtain ⟨ok,h1,h⟩:=Option.bind_eq_some_iff.1 h
 have A1_:=Aside0.mk h1
 have H:=Aside0.mk h
 clear h h1
 go_enter Try.func26,Try.ntmps26
 go_wp2_with fail
 refine (newClaimsR.calls k A1 c1 l1 a2 ok _ HR1.out HC1.out A1_.out).mono ?_
 rintro e w1 ⟨rfl,hb⟩
 have n0_:=Aside0.mk (below_step HB.out hb)
 clear HB hb
 have HB:=n0_
 clear n0_
 go_wp2_with (first | ((with_reducible refine gate_dst (N:=8) rfl ?_);refine box_event ?hg (N:=8) ?hd (cs:=#[.slice none 0 0,.int .i64 0]) (t:=94) ?hr ?_;(case hd=>rfl);(case hg=>rfl);(case hr=>first | (go_simp;done) | (go_simp;rfl));intro gbC hg w2 hbox hb;have n0_:=Aside0.mk (below_step HB.out hb);have n1_:=Aside0.mk hbox;have n2_:=Aside0.mk (by rw [hg];exact HB.out.size:w.heap.size ≤ gbC);clear HB;have HB:=n0_;have BKC:=n1_;have GEC:=n2_;clear n0_ n1_ n2_;clear hb hbox hg;have hczC:=(blk_cell BKC.out 0).trans rfl;have hczC1:=(blk_cell BKC.out 1).trans rfl;have hfzC:=blk_frozen BKC.out 0;have hfzC1:=blk_frozen BKC.out 1))
 refine (rules_any A1 l1.length c1 a2 _).mono ?_
 rintro e w3 ⟨b,rfl,hm,hge,hb⟩
 have n0_:=Aside0.mk (below_step (below_set (below_set HB.out GEC.out) GEC.out) hb)
 have HM:=Aside0.mk hm
 clear HB hb hm hge
 (try clear hczC);(try clear hczC1);(try clear hfzC);(try clear hfzC1);(try clear BKC);(try clear GEC)
 have HB:=n0_
 clear n0_
 by_cases hk:a0 = 0 ∨ a0 = 1 ∨ a0 = 2 ∨ a0 = 3 ∨ a0 = 4
 case neg =>
  have hn:∀ j:Int,(j = 0 ∨ j = 1 ∨ j = 2 ∨ j = 3 ∨ j = 4) → (a0 == j) = false:=fun j hj=>by
   rw [beq_eq_false_iff_ne]
   rintro rfl
   exact hk hj
  have hl:=run_look_no w3 Try.underlying104 Try.underlying3 (z:=.nilFunc) (by kernel_rfl) HM.out (j:=a0) (by
   show Instr.findNow (.int .i64) (.int .i64 a0) [_,_,_,_,_] 0 = _
   simp only [Instr.findNow,Instr.sameNow,if_true,hn 0 (by decide),hn 1 (by decide),hn 2 (by decide),hn 3 (by decide),hn 4 (by decide)])
  have h:=H.out
  rw [if_neg (fun e=>hk (.inl e)),if_neg (fun e=>hk (.inr (.inl e))),if_neg (fun e=>hk (.inr (.inr (.inl e)))),if_neg (fun e=>hk (.inr (.inr (.inr (.inl e))))),if_neg (fun e=>hk (.inr (.inr (.inr (.inr e))))),ite_self] at h
  simp only [Option.some.injEq,Prod.mk.injEq] at h
  obtain ⟨rfl,rfl⟩:=h
  clear hn hk H
  cases ok
  all_goals
   go_wp2_with fail
   go_ret2
   exact ⟨_,rfl,Kd.R_nil _ _ _ _ _,HB.out⟩
 rcases hk with rfl | rfl | rfl | rfl | rfl
 ·have hl:=run_look w3 Try.underlying104 Try.underlying3 HM.out (j:=0) (i:=0) (v:=boundF 97 A1 l1.length c1 a2) (by rfl)
  unfold boundF at hl
  cases ok with
  | false =>
   have h:=H.out
   rw [if_neg (by decide)] at h
   simp only [Option.some.injEq,Prod.mk.injEq] at h
   obtain ⟨rfl,rfl⟩:=h
   go_wp2_with fail
   go_ret2
   exact ⟨_,rfl,Kd.R_nil _ _ _ _ _,HB.out⟩
  | true =>
   have h:=H.out
   rw [if_pos rfl] at h
   rw [if_pos (by rfl)] at h
   obtain ⟨x,hx,h⟩:=Option.bind_eq_some_iff.1 h
   simp only [Option.some.injEq,Prod.mk.injEq] at h
   obtain ⟨rfl,rfl⟩:=h
   have HX:=Aside0.mk hx
   clear hx H
   go_wp2_with fail
   refine (shares_claims_proportional.calls k A1 c1 l1 a2 x _ (Kd.C_below HR1.out HB.out) HC1.out HX.out).mono ?_
   rintro e w5 ⟨v,rfl,hr,hb⟩
   have HR5:=Aside0.mk (Kd.R_lower hr HB.out.size)
   have HB5:=Aside0.mk (below_step HB.out hb)
   clear hr hb hl
   go_wp2
   go_ret2
   exact ⟨_,rfl,HR5.out,HB5.out⟩
 ·have hl:=run_look w3 Try.underlying104 Try.underlying3 HM.out (j:=1) (i:=1) (v:=boundF 98 A1 l1.length c1 a2) (by rfl)
  unfold boundF at hl
  cases ok with
  | false =>
   have h:=H.out
   rw [if_neg (by decide)] at h
   simp only [Option.some.injEq,Prod.mk.injEq] at h
   obtain ⟨rfl,rfl⟩:=h
   go_wp2_with fail
   go_ret2
   exact ⟨_,rfl,Kd.R_nil _ _ _ _ _,HB.out⟩
  | true =>
   have h:=H.out
   rw [if_pos rfl] at h
   rw [if_neg (by decide)] at h;rw [if_pos (by rfl)] at h
   obtain ⟨x,hx,h⟩:=Option.bind_eq_some_iff.1 h
   simp only [Option.some.injEq,Prod.mk.injEq] at h
   obtain ⟨rfl,rfl⟩:=h
   have HX:=Aside0.mk hx
   clear hx H
   go_wp2_with fail
   refine (shares_claims_awards.calls k A1 c1 l1 a2 x _ (Kd.C_below HR1.out HB.out) HC1.out HX.out).mono ?_
   rintro e w5 ⟨v,rfl,hr,hb⟩
   have HR5:=Aside0.mk (Kd.R_lower hr HB.out.size)
   have HB5:=Aside0.mk (below_step HB.out hb)
   clear hr hb hl
   go_wp2
   go_ret2
   exact ⟨_,rfl,HR5.out,HB5.out⟩
 ·have hl:=run_look w3 Try.underlying104 Try.underlying3 HM.out (j:=2) (i:=2) (v:=boundF 99 A1 l1.length c1 a2) (by rfl)
  unfold boundF at hl
  cases ok with
  | false =>
   have h:=H.out
   rw [if_neg (by decide)] at h
   simp only [Option.some.injEq,Prod.mk.injEq] at h
   obtain ⟨rfl,rfl⟩:=h
   go_wp2_with fail
   go_ret2
   exact ⟨_,rfl,Kd.R_nil _ _ _ _ _,HB.out⟩
  | true =>
   have h:=H.out
   rw [if_pos rfl] at h
   rw [if_neg (by decide)] at h;rw [if_neg (by decide)] at h;rw [if_pos (by rfl)] at h
   obtain ⟨x,hx,h⟩:=Option.bind_eq_some_iff.1 h
   simp only [Option.some.injEq,Prod.mk.injEq] at h
   obtain ⟨rfl,rfl⟩:=h
   have HX:=Aside0.mk hx
   clear hx H
   go_wp2_with fail
   refine (shares_claims_losses.calls k A1 c1 l1 a2 x _ (Kd.C_below HR1.out HB.out) HC1.out HX.out).mono ?_
   rintro e w5 ⟨v,rfl,hr,hb⟩
   have HR5:=Aside0.mk (Kd.R_lower hr HB.out.size)
   have HB5:=Aside0.mk (below_step HB.out hb)
   clear hr hb hl
   go_wp2
   go_ret2
   exact ⟨_,rfl,HR5.out,HB5.out⟩
 ·have hl:=run_look w3 Try.underlying104 Try.underlying3 HM.out (j:=3) (i:=3) (v:=boundF 100 A1 l1.length c1 a2) (by rfl)
  unfold boundF at hl
  cases ok with
  | false =>
   have h:=H.out
   rw [if_neg (by decide)] at h
   simp only [Option.some.injEq,Prod.mk.injEq] at h
   obtain ⟨rfl,rfl⟩:=h
   go_wp2_with fail
   go_ret2
   exact ⟨_,rfl,Kd.R_nil _ _ _ _ _,HB.out⟩
  | true =>
   have h:=H.out
   rw [if_pos rfl] at h
   rw [if_neg (by decide)] at h;rw [if_neg (by decide)] at h;rw [if_neg (by decide)] at h;rw [if_pos (by rfl)] at h
   obtain ⟨x,hx,h⟩:=Option.bind_eq_some_iff.1 h
   simp only [Option.some.injEq,Prod.mk.injEq] at h
   obtain ⟨rfl,rfl⟩:=h
   have HX:=Aside0.mk hx
   clear hx H
   go_wp2_with fail
   refine (shares_claims_talmud.calls k A1 c1 l1 a2 x _ (Kd.C_below HR1.out HB.out) HC1.out HX.out).mono ?_
   rintro e w5 ⟨v,rfl,hr,hb⟩
   have HR5:=Aside0.mk (Kd.R_lower hr HB.out.size)
   have HB5:=Aside0.mk (below_step HB.out hb)
   clear hr hb hl
   go_wp2
   go_ret2
   exact ⟨_,rfl,HR5.out,HB5.out⟩
 have hl:=run_look w3 Try.underlying104 Try.underlying3 HM.out (j:=4) (i:=4) (v:=boundF 101 A1 l1.length c1 a2) (by rfl)
 unfold boundF at hl
 cases ok with
 | false =>
  have h:=H.out
  rw [if_neg (by decide)] at h
  simp only [Option.some.injEq,Prod.mk.injEq] at h
  obtain ⟨rfl,rfl⟩:=h
  go_wp2_with fail
  go_ret2
  exact ⟨_,rfl,Kd.R_nil _ _ _ _ _,HB.out⟩
 | true =>
  have h:=H.out
  rw [if_pos rfl] at h
  rw [if_neg (by decide)] at h;rw [if_neg (by decide)] at h;rw [if_neg (by decide)] at h;rw [if_neg (by decide)] at h;rw [if_pos (by rfl)] at h
  obtain ⟨x,hx,h⟩:=Option.bind_eq_some_iff.1 h
  simp only [Option.some.injEq,Prod.mk.injEq] at h
  obtain ⟨rfl,rfl⟩:=h
  have HX:=Aside0.mk hx
  clear hx H
  go_wp2_with fail
  refine (shares_claims_piniles.calls k A1 c1 l1 a2 x _ (Kd.C_below HR1.out HB.out) HC1.out HX.out).mono ?_
  rintro e w5 ⟨v,rfl,hr,hb⟩
  have HR5:=Aside0.mk (Kd.R_lower hr HB.out.size)
  have HB5:=Aside0.mk (below_step HB.out hb)
  clear hr hb hl
  go_wp2
  go_ret2
  exact ⟨_,rfl,HR5.out,HB5.out⟩
end Go.Proofs.Ytjohcjfmlhihbaa.G
namespace Go.Proofs.Ytjohcjfmlhihbaa.G
open Go.RowKit Go.Proofs.YtjohcjfmlhihbaaW.PrintWords Go.Proofs.YtjohcjfmlhihbaaW.PrintLast Go.Proofs.YtjohcjfmlhihbaaW.PrintMore
set_option maxHeartbeats 8000000
set_option maxRecDepth 100000
attribute [local go_sem] cond_true cond_false fld23_0 fld23_1 fld45_0 fld45_1 fld109_0 fld109_1 fld94_0 fld94_1 max2_int min2_int max_two min_two max_three min_three max_four min_four
attribute [local go_sem high] eqA23
def numnahlaw07_awake.j0:Nat → Bool → Option (Bool)
 | 0,_=>none
 | k + 1,x72=>if x72 = true then (some false) else (some true)
def numnahlaw07_awake.f (k:Nat)  : Option (Bool):=(shares_Award.f k 3 (([100,200,300]:List Int)) 300).bind fun bt313=>((shares_Garment.f k 100 50 100).bind fun bt317=>((shares_Fair.f k (([10,4]:List Int)) (([(⟨1,(([0,1]:List Int))⟩:S45),(⟨1,(([0]:List Int))⟩:S45)]:List (S45)))).bind fun bt336=>(if bt313.2 = 0 then ((numnahref07_Whole.f 50).bind fun bt343=>((numnahref07_Whole.f 100).bind fun bt345=>((numnahref07_Whole.f 150).bind fun bt347=>((numnahref07_Same.f k bt313.1 (([(⟨bt343.1,bt343.2⟩:S23),(⟨bt345.1,bt345.2⟩:S23),(⟨bt347.1,bt347.2⟩:S23)]:List (S23)))).bind fun t352=>(if t352 = true then (if bt317.2.2.2.2 = 0 then ((numnahref07_Whole.f 25).bind fun bt353=>(if (!(bt317.1 == bt353.1) || (!(bt317.2.1 == bt353.2))) = true then (numnahlaw07_awake.j0 k true) else ((numnahref07_Whole.f 75).bind fun bt355=>(if (!(bt317.2.2.1 == bt355.1) || (!(bt317.2.2.2.1 == bt355.2))) = true then (numnahlaw07_awake.j0 k true) else (if bt336.2.2 = 0 then ((numnahref07_Whole.f 4).bind fun bt357=>((numnahref07_Whole.f 6).bind fun bt359=>((numnahref07_Same.f k bt336.1 (([(⟨bt357.1,bt357.2⟩:S23),(⟨bt359.1,bt359.2⟩:S23)]:List (S23)))).bind fun t364=>(if t364 = true then ((numnahlaw07_ints.f k bt336.2.1 (([1,0]:List Int))).bind fun t368=>(numnahlaw07_awake.j0 k (!t368))) else (numnahlaw07_awake.j0 k true))))) else (numnahlaw07_awake.j0 k true)))))) else (numnahlaw07_awake.j0 k true)) else (numnahlaw07_awake.j0 k true)))))) else (numnahlaw07_awake.j0 k true))))
theorem numnahlaw07_awake.mono_l:∀ k,(∀ y0,LeO (numnahlaw07_awake.j0 k y0) (numnahlaw07_awake.j0 (k + 1) y0))
 | 0=>fun _ r h=>by simp [numnahlaw07_awake.j0] at h
 | k + 1=>by
  have ih0:=numnahlaw07_awake.mono_l k
  intro y0
  unfold numnahlaw07_awake.j0
  repeat' first
  | (with_reducible first | exact ih0 _ | exact numnahlaw07_ints.mono _ _ _ | exact numnahref07_Same.mono _ _ _ | exact shares_Award.mono _ _ _ _ | exact shares_Fair.mono _ _ _ | exact shares_Garment.mono _ _ _ _ | exact LeO.refl _ | exact LeO.none _ | refine LeO.ite ?_ ?_ | refine LeO.bind ?_ (fun _=>?_))
  | exact LeO.none _ | refine LeO.ite ?_ ?_ | refine LeO.bind ?_ (fun _=>?_)
theorem numnahlaw07_awake.mono:∀ k,LeO (numnahlaw07_awake.f k ) (numnahlaw07_awake.f (k + 1) ):=by
 intro  k
 have ih0:=numnahlaw07_awake.mono_l k
 unfold numnahlaw07_awake.f
 repeat' first
   | (with_reducible first | exact ih0 _ | exact numnahlaw07_ints.mono _ _ _ | exact numnahref07_Same.mono _ _ _ | exact shares_Award.mono _ _ _ _ | exact shares_Fair.mono _ _ _ | exact shares_Garment.mono _ _ _ _ | exact LeO.refl _ | exact LeO.none _ | refine LeO.ite ?_ ?_ | refine LeO.bind ?_ (fun _=>?_))
   | exact LeO.none _ | refine LeO.ite ?_ ?_ | refine LeO.bind ?_ (fun _=>?_)
def numnahlaw07_awake.T4:Bool × List (List Nat × List Nat):=(true,[([],[]),([0],[0]),([1],[1]),([2],[2]),([2,2],[2]),([4,2],[2]),([5,2],[2]),([4,5,6,2],[2,4,5,6]),([3,7,6,2],[2,3,7]),([8,2],[2,8]),([2,9],[2,9]),([10,8],[10]),([11],[11]),([12,11],[11,12]),([11,13],[11,13]),([14,11],[14]),([15],[15]),([15,15],[15]),([16,17,15],[15,16,17]),([15,18],[15,18]),([19,17],[19]),([20],[20]),([20,20],[20]),([21,22,20],[20,21,22]),([20,23],[20,23]),([24,22],[24]),([25],[25]),([26,25],[25,26]),([25,27],[25,27]),([28,25],[28]),([29],[29]),([29,29],[29]),([31,29],[29]),([31,32,29],[29,31,32]),([30,33,32,29],[29,30,33]),([34,29],[29,34]),([29,35],[29,35]),([36,34],[36]),([37],[37]),([37],[37]),([38,39,37,37],[37,38,39]),([40,37],[37,40]),([37,41],[37,41])])
def numnahlaw07_awake.B4:List Nat:=[0,1,3,7,7,23,55,119,255,511,1023,2047,4095,8191,16383,32767,65535,65535,262143,524287,1048575,2097151,2097151,8388607,16777215,33554431,67108863,134217727,268435455,536870911,1073741823,1073741823,3221225471,7516192767,17179869183,34359738367,68719476735,137438953471,274877906943,274877906943,1099511627775,2199023255551,4398046511103]
theorem numnahlaw07_awake.tab4:rtab .any (opsOf Try.f22 4) = numnahlaw07_awake.T4:=by kernel_rfl
theorem numnahlaw07_awake.bits4:waitsOk numnahlaw07_awake.T4.2 numnahlaw07_awake.B4 = true:=by kernel_rfl
theorem j0_no:∀ k,numnahlaw07_awake.j0 k true ≠ some true:=by
 intro k
 cases k <;> simp [numnahlaw07_awake.j0]
theorem numnahlaw07_awake.callsT (k:Nat)  (r:Bool) (w:World) (h:numnahlaw07_awake.f k  = some r) (hrt_:r = true) :
  Calls Try.prog 22 #[] w fun e w'=>e = .returned (.bool r) ∧ Below w.heap.size w w':=by
 have HRT:=A_ hrt_
 clear hrt_
 have hu23:=Try.underlying23
 have hu45:=Try.underlying45
 have HB:=A_ (Below.refl w.heap.size w)
 have H:((shares_Award.f k 3 (([100,200,300]:List Int)) 300).bind fun bt313=>((shares_Garment.f k 100 50 100).bind fun bt317=>((shares_Fair.f k (([10,4]:List Int)) (([(⟨1,(([0,1]:List Int))⟩:S45),(⟨1,(([0]:List Int))⟩:S45)]:List (S45)))).bind fun bt336=>(if bt313.2 = 0 then ((numnahref07_Whole.f 50).bind fun bt343=>((numnahref07_Whole.f 100).bind fun bt345=>((numnahref07_Whole.f 150).bind fun bt347=>((numnahref07_Same.f k bt313.1 (([(⟨bt343.1,bt343.2⟩:S23),(⟨bt345.1,bt345.2⟩:S23),(⟨bt347.1,bt347.2⟩:S23)]:List (S23)))).bind fun t352=>(if t352 = true then (if bt317.2.2.2.2 = 0 then ((numnahref07_Whole.f 25).bind fun bt353=>(if (!(bt317.1 == bt353.1) || (!(bt317.2.1 == bt353.2))) = true then (numnahlaw07_awake.j0 k true) else ((numnahref07_Whole.f 75).bind fun bt355=>(if (!(bt317.2.2.1 == bt355.1) || (!(bt317.2.2.2.1 == bt355.2))) = true then (numnahlaw07_awake.j0 k true) else (if bt336.2.2 = 0 then ((numnahref07_Whole.f 4).bind fun bt357=>((numnahref07_Whole.f 6).bind fun bt359=>((numnahref07_Same.f k bt336.1 (([(⟨bt357.1,bt357.2⟩:S23),(⟨bt359.1,bt359.2⟩:S23)]:List (S23)))).bind fun t364=>(if t364 = true then ((numnahlaw07_ints.f k bt336.2.1 (([1,0]:List Int))).bind fun t368=>(numnahlaw07_awake.j0 k (!t368))) else (numnahlaw07_awake.j0 k true))))) else (numnahlaw07_awake.j0 k true)))))) else (numnahlaw07_awake.j0 k true)) else (numnahlaw07_awake.j0 k true)))))) else (numnahlaw07_awake.j0 k true))))) = some r:=h
 clear h
 obtain ⟨y310,hy310⟩:∃ y_:List Int,y_ = (([100,200,300]:List Int)):=⟨_,rfl⟩
 rw [← hy310] at H
 have Ny310:=A_ hy310
 clear hy310
 replace H:=Option.bind_eq_some_iff.mp H
 obtain ⟨⟨t313,t314⟩,A10,H⟩:=H
 dsimp only at H
 have A1:=A_ A10
 clear A10
 replace H:=Option.bind_eq_some_iff.mp H
 obtain ⟨⟨t317,t318,t319,t320,t321⟩,A20,H⟩:=H
 dsimp only at H
 have A2:=A_ A20
 clear A20
 obtain ⟨y324,hy324⟩:∃ y_:List Int,y_ = (([10,4]:List Int)):=⟨_,rfl⟩
 rw [← hy324] at H
 have Ny324:=A_ hy324
 clear hy324
 obtain ⟨y327,hy327⟩:∃ y_:List Int,y_ = (([0,1]:List Int)):=⟨_,rfl⟩
 replace H:((shares_Fair.f k y324 (([(⟨1,y327⟩:S45),(⟨1,(([0]:List Int))⟩:S45)]:List (S45)))).bind fun bt336=>(if t314 = 0 then ((numnahref07_Whole.f 50).bind fun bt343=>((numnahref07_Whole.f 100).bind fun bt345=>((numnahref07_Whole.f 150).bind fun bt347=>((numnahref07_Same.f k t313 (([(⟨bt343.1,bt343.2⟩:S23),(⟨bt345.1,bt345.2⟩:S23),(⟨bt347.1,bt347.2⟩:S23)]:List (S23)))).bind fun t352=>(if t352 = true then (if t321 = 0 then ((numnahref07_Whole.f 25).bind fun bt353=>(if (!(t317 == bt353.1) || (!(t318 == bt353.2))) = true then (numnahlaw07_awake.j0 k true) else ((numnahref07_Whole.f 75).bind fun bt355=>(if (!(t319 == bt355.1) || (!(t320 == bt355.2))) = true then (numnahlaw07_awake.j0 k true) else (if bt336.2.2 = 0 then ((numnahref07_Whole.f 4).bind fun bt357=>((numnahref07_Whole.f 6).bind fun bt359=>((numnahref07_Same.f k bt336.1 (([(⟨bt357.1,bt357.2⟩:S23),(⟨bt359.1,bt359.2⟩:S23)]:List (S23)))).bind fun t364=>(if t364 = true then ((numnahlaw07_ints.f k bt336.2.1 (([1,0]:List Int))).bind fun t368=>(numnahlaw07_awake.j0 k (!t368))) else (numnahlaw07_awake.j0 k true))))) else (numnahlaw07_awake.j0 k true)))))) else (numnahlaw07_awake.j0 k true)) else (numnahlaw07_awake.j0 k true)))))) else (numnahlaw07_awake.j0 k true))) = some r:=by rw [hy327];exact H
 have Ny327:=A_ hy327
 clear hy327
 obtain ⟨y330,hy330⟩:∃ y_:List Int,y_ = (([0]:List Int)):=⟨_,rfl⟩
 replace H:((shares_Fair.f k y324 (([(⟨1,y327⟩:S45),(⟨1,y330⟩:S45)]:List (S45)))).bind fun bt336=>(if t314 = 0 then ((numnahref07_Whole.f 50).bind fun bt343=>((numnahref07_Whole.f 100).bind fun bt345=>((numnahref07_Whole.f 150).bind fun bt347=>((numnahref07_Same.f k t313 (([(⟨bt343.1,bt343.2⟩:S23),(⟨bt345.1,bt345.2⟩:S23),(⟨bt347.1,bt347.2⟩:S23)]:List (S23)))).bind fun t352=>(if t352 = true then (if t321 = 0 then ((numnahref07_Whole.f 25).bind fun bt353=>(if (!(t317 == bt353.1) || (!(t318 == bt353.2))) = true then (numnahlaw07_awake.j0 k true) else ((numnahref07_Whole.f 75).bind fun bt355=>(if (!(t319 == bt355.1) || (!(t320 == bt355.2))) = true then (numnahlaw07_awake.j0 k true) else (if bt336.2.2 = 0 then ((numnahref07_Whole.f 4).bind fun bt357=>((numnahref07_Whole.f 6).bind fun bt359=>((numnahref07_Same.f k bt336.1 (([(⟨bt357.1,bt357.2⟩:S23),(⟨bt359.1,bt359.2⟩:S23)]:List (S23)))).bind fun t364=>(if t364 = true then ((numnahlaw07_ints.f k bt336.2.1 (([1,0]:List Int))).bind fun t368=>(numnahlaw07_awake.j0 k (!t368))) else (numnahlaw07_awake.j0 k true))))) else (numnahlaw07_awake.j0 k true)))))) else (numnahlaw07_awake.j0 k true)) else (numnahlaw07_awake.j0 k true)))))) else (numnahlaw07_awake.j0 k true))) = some r:=by rw [hy330];exact H
 have Ny330:=A_ hy330
 clear hy330
 obtain ⟨y333,hy333⟩:∃ y_:List (S45),y_ = (([(⟨1,y327⟩:S45),(⟨1,y330⟩:S45)]:List (S45))):=⟨_,rfl⟩
 replace H:((shares_Fair.f k y324 y333).bind fun bt336=>(if t314 = 0 then ((numnahref07_Whole.f 50).bind fun bt343=>((numnahref07_Whole.f 100).bind fun bt345=>((numnahref07_Whole.f 150).bind fun bt347=>((numnahref07_Same.f k t313 (([(⟨bt343.1,bt343.2⟩:S23),(⟨bt345.1,bt345.2⟩:S23),(⟨bt347.1,bt347.2⟩:S23)]:List (S23)))).bind fun t352=>(if t352 = true then (if t321 = 0 then ((numnahref07_Whole.f 25).bind fun bt353=>(if (!(t317 == bt353.1) || (!(t318 == bt353.2))) = true then (numnahlaw07_awake.j0 k true) else ((numnahref07_Whole.f 75).bind fun bt355=>(if (!(t319 == bt355.1) || (!(t320 == bt355.2))) = true then (numnahlaw07_awake.j0 k true) else (if bt336.2.2 = 0 then ((numnahref07_Whole.f 4).bind fun bt357=>((numnahref07_Whole.f 6).bind fun bt359=>((numnahref07_Same.f k bt336.1 (([(⟨bt357.1,bt357.2⟩:S23),(⟨bt359.1,bt359.2⟩:S23)]:List (S23)))).bind fun t364=>(if t364 = true then ((numnahlaw07_ints.f k bt336.2.1 (([1,0]:List Int))).bind fun t368=>(numnahlaw07_awake.j0 k (!t368))) else (numnahlaw07_awake.j0 k true))))) else (numnahlaw07_awake.j0 k true)))))) else (numnahlaw07_awake.j0 k true)) else (numnahlaw07_awake.j0 k true)))))) else (numnahlaw07_awake.j0 k true))) = some r:=by rw [hy333];exact H
 have Ny333:=A_ hy333
 clear hy333
 replace H:=Option.bind_eq_some_iff.mp H
 obtain ⟨⟨t336,t337,t338⟩,A30,H⟩:=H
 dsimp only at H
 have A3:=A_ A30
 clear A30
 have HC4:=A_ H
 clear H
 go_enter Try.func22,Try.ntmps22
 go_upto_region 4 with (first | ((with_reducible refine gate_dst (N:=10) rfl ?_);(try (refine gate_guard (by rfl) ?_;dsimp only));refine Kd.R_lit (Kd.int .i64) _ 3 ?hg (N:=10) ?hd (xs:=([100,200,300]:List Int)) (inner:=[.int .i64 100,.int .i64 200,.int .i64 300]) (ok:=fun _=>True) (okp:=fun _=>True) ?hr ?hp (fun _ hk=>hk) trivial (Below.refl _ _) (Nat.le_refl _) (by simp) ?_;(case hd=>rfl);(case hg=>rfl);(case hr=>first | (go_simp;done) | (go_simp;rfl));(case hp=>exact (Reps.one (show Kd.M (Kd.int .i64) _ _ _ 100 [.int .i64 100] from rfl) (Reps.one (show Kd.M (Kd.int .i64) _ _ _ 200 [.int .i64 200] from rfl) (Reps.one (show Kd.M (Kd.int .i64) _ _ _ 300 [.int .i64 300] from rfl) (Reps.none _ _)))));intro v311 w5 ho6 hb hg_ hnew_;clear hg_ hnew_;(first | rw [← Ny310.out] at ho6 | (simp only [Int.reduceToNat] at ho6;rw [← Ny310.out] at ho6));have HO312:=A_ (Kd.R_lower ho6 (below_size (bl HB)));replace HB:=bB HB hb;clear hb ho6;obtain ⟨Ao7,co7,eo7⟩:=Kd.R_slice HO312.out;subst eo7) | ((with_reducible refine gate_callee (f:=26) rfl ?_);refine gL (some 11) Try.func26 #[.int .i64 3,.slice Ao7 y310.length co7,.int .i64 300] ?_;(with_reducible refine (shares_Award.calls k 3 _ _ y310 300 t313 t314 _ ?side1 ?side2 A1.out).mono ?_);(case side1=>repeat (first | exact (Kd.R_reads' HO312.out).2.2 | (with_reducible refine Kd.C_alloc ?_ _) | (with_reducible refine Kd.C_drewN ?_ _) | (with_reducible refine Kd.C_drew ?_)));(case side2=>exact (Kd.R_reads' HO312.out).2.1);rintro e w8 ⟨v315,rfl,ho0,hb⟩;refine ⟨_,rfl,?_⟩;have HO316:=A_ (Kd.R_lower ho0 (below_size (bl HB)));replace HO312:=rB HO312 hb;replace HB:=bB HB hb;(try clear hb)) | ((with_reducible refine gate_callee (f:=20) rfl ?_);refine gL (some 15) Try.func20 #[.int .i64 100,.int .i64 50,.int .i64 100] ?_;(with_reducible refine (shares_Garment.calls k 100 50 100 t317 t318 t319 t320 t321 _ A2.out).mono ?_);rintro e w9 ⟨rfl,hb⟩;refine ⟨_,rfl,?_⟩;replace HO312:=rB HO312 hb;replace HO316:=rB HO316 hb;replace HB:=bB HB hb;(try clear hb)) | ((with_reducible refine gate_dst (N:=3) rfl ?_);(try (refine gate_guard (by rfl) ?_;dsimp only));refine bx 3 #[.int .i64 0,.int .i64 0] 23 ?_;intro gb322 hg w10 hbox hb;have BK322:=A_ hbox;have GW322:=gw hg HB;have GE322:=GW322;replace HO312:=rB HO312 hb;replace HO316:=A_ (Kd.R_below (Kd.R_elderB HO316.out gb322 (Nat.le_of_eq hg.symm)) hb);replace HB:=bB HB hb;clear hb hbox hg) | ((with_reducible refine gate_dst (N:=4) rfl ?_);(try (refine gate_guard (by rfl) ?_;dsimp only));refine bx 4 #[.int .i64 0,.int .i64 0] 23 ?_;intro gb323 hg w11 hbox hb;have BK323:=A_ hbox;have GW323:=gw hg HB;have GE323:=GW323;have NB322_323:=nl hg BK322;have NB323_322:=ng hg BK322;replace HO312:=rB HO312 hb;replace HO316:=A_ (Kd.R_below (Kd.R_elderB HO316.out gb323 (Nat.le_of_eq hg.symm)) hb);replace BK322:=kB BK322 hb;replace HB:=bB HB hb;clear hb hbox hg;have hnb12:=NB322_323.out;have hnc12:=NB323_322.out;have hcz13_0:w11.cell? ⟨gb322,0,none⟩ = some (.int .i64 0):=cz BK322 0;have hcz13_1:w11.cell? ⟨gb322,1,none⟩ = some (.int .i64 0):=cz BK322 1;have hfz13_0:=blk_frozen BK322.out 0;have hfz13_1:=blk_frozen BK322.out 1;have hcz14_0:w11.cell? ⟨gb323,0,none⟩ = some (.int .i64 0):=cz BK323 0;have hcz14_1:w11.cell? ⟨gb323,1,none⟩ = some (.int .i64 0):=cz BK323 1;have hfz14_0:=blk_frozen BK323.out 0;have hfz14_1:=blk_frozen BK323.out 1) | ((with_reducible refine gate_dst (N:=20) rfl ?_);(try (refine gate_guard (by rfl) ?_;dsimp only));refine Kd.R_lit (Kd.int .i64) _ 3 ?hg (N:=20) ?hd (xs:=([10,4]:List Int)) (inner:=[.int .i64 10,.int .i64 4]) (ok:=fun _=>True) (okp:=fun _=>True) ?hr ?hp (fun _ hk=>hk) trivial (Below.refl _ _) (Nat.le_refl _) (by simp) ?_;(case hd=>rfl);(case hg=>rfl);(case hr=>first | (go_simp;done) | (go_simp;rfl));(case hp=>exact (Reps.one (show Kd.M (Kd.int .i64) _ _ _ 10 [.int .i64 10] from rfl) (Reps.one (show Kd.M (Kd.int .i64) _ _ _ 4 [.int .i64 4] from rfl) (Reps.none _ _))));intro v325 w15 ho16 hb hg_ hnew_;clear hg_ hnew_;(first | rw [← Ny324.out] at ho16 | (simp only [Int.reduceToNat] at ho16;rw [← Ny324.out] at ho16));have HO326:=A_ (Kd.R_lower (Kd.R_new' ho16 (Kd.R_lt (by (with_reducible repeat (first | apply Kd.R_alloc | apply Kd.R_drewN | apply Kd.R_drew));exact (Kd.R_mono (Kd.R_mono (Kd.R_far (p:=⟨gb323,1,none⟩) (Kd.R_far (p:=⟨gb323,0,none⟩) (Kd.R_far (p:=⟨gb322,1,none⟩) (Kd.R_far (p:=⟨gb322,0,none⟩) (Kd.R_types (Kd.R_types HO312.out BK322.out (by decide)) BK323.out (by decide)) (fun _ hk=>hk.1.2) (.int .i64 t317)) (fun _ hk=>hk.1.2) (.int .i64 t318)) (fun _ hk=>hk.2) (.int .i64 t319)) (fun _ hk=>hk.2) (.int .i64 t320)) (fun _ h_=>h_.1)) (fun _ h_=>h_.1))))) (below_size (bl HB)));replace HO312:=A_ (Kd.R_elder' (by (with_reducible repeat (first | apply Kd.R_alloc | apply Kd.R_drewN | apply Kd.R_drew));exact (Kd.R_mono (Kd.R_mono (Kd.R_far (p:=⟨gb323,1,none⟩) (Kd.R_far (p:=⟨gb323,0,none⟩) (Kd.R_far (p:=⟨gb322,1,none⟩) (Kd.R_far (p:=⟨gb322,0,none⟩) (Kd.R_types (Kd.R_types HO312.out BK322.out (by decide)) BK323.out (by decide)) (fun _ hk=>hk.1.2) (.int .i64 t317)) (fun _ hk=>hk.1.2) (.int .i64 t318)) (fun _ hk=>hk.2) (.int .i64 t319)) (fun _ hk=>hk.2) (.int .i64 t320)) (fun _ h_=>h_.1)) (fun _ h_=>h_.1))) (Kd.R_base ho16) hb);replace HO316:=A_ (Kd.R_below (by (with_reducible repeat (first | apply Kd.R_alloc | apply Kd.R_drewN | apply Kd.R_drew));exact (Kd.R_mono (Kd.R_mono (Kd.R_far (p:=⟨gb323,1,none⟩) (Kd.R_far (p:=⟨gb323,0,none⟩) (Kd.R_far (p:=⟨gb322,1,none⟩) (Kd.R_far (p:=⟨gb322,0,none⟩) (Kd.R_mono (Kd.R_mono HO316.out (fun k_ hk=>(⟨hk,hk.1.2⟩:_ ∧ k_ ≠ gb322))) (fun k_ hk=>(⟨hk,hk.1.2⟩:_ ∧ k_ ≠ gb323))) (fun _ hk=>hk.1.2) (.int .i64 t317)) (fun _ hk=>hk.1.2) (.int .i64 t318)) (fun _ hk=>hk.2) (.int .i64 t319)) (fun _ hk=>hk.2) (.int .i64 t320)) (fun _ h_=>h_.1)) (fun _ h_=>h_.1))) hb);replace BK322:=A_ (blk_below (g:=gb322) (o:=.cells #[.int .i64 t317,.int .i64 t318] 23 (0,0)) (by (with_reducible repeat (first | refine blk_drewN ?_ _ | refine blk_drew ?_ | refine blk_alloc ?_ _));refine blk_far ?_ NB322_323.out _;(with_reducible repeat (first | refine blk_drewN ?_ _ | refine blk_drew ?_ | refine blk_alloc ?_ _));refine blk_far ?_ NB322_323.out _;(with_reducible repeat (first | refine blk_drewN ?_ _ | refine blk_drew ?_ | refine blk_alloc ?_ _));refine blk_put (cs:=#[.int .i64 t317,.int .i64 0]) ?_ 1 _ rfl;(with_reducible repeat (first | refine blk_drewN ?_ _ | refine blk_drew ?_ | refine blk_alloc ?_ _));refine blk_put (cs:=#[.int .i64 0,.int .i64 0]) ?_ 0 _ rfl;(with_reducible repeat (first | refine blk_drewN ?_ _ | refine blk_drew ?_ | refine blk_alloc ?_ _));exact BK322.out) hb);replace BK323:=A_ (blk_below (g:=gb323) (o:=.cells #[.int .i64 t319,.int .i64 t320] 23 (0,0)) (by (with_reducible repeat (first | refine blk_drewN ?_ _ | refine blk_drew ?_ | refine blk_alloc ?_ _));refine blk_put (cs:=#[.int .i64 t319,.int .i64 0]) ?_ 1 _ rfl;(with_reducible repeat (first | refine blk_drewN ?_ _ | refine blk_drew ?_ | refine blk_alloc ?_ _));refine blk_put (cs:=#[.int .i64 0,.int .i64 0]) ?_ 0 _ rfl;(with_reducible repeat (first | refine blk_drewN ?_ _ | refine blk_drew ?_ | refine blk_alloc ?_ _));refine blk_far ?_ NB323_322.out _;(with_reducible repeat (first | refine blk_drewN ?_ _ | refine blk_drew ?_ | refine blk_alloc ?_ _));refine blk_far ?_ NB323_322.out _;(with_reducible repeat (first | refine blk_drewN ?_ _ | refine blk_drew ?_ | refine blk_alloc ?_ _));exact BK323.out) hb);replace HB:=bB HB hb;clear hb ho16) | ((with_reducible refine gate_dst (N:=21) rfl ?_);(try (refine gate_guard (by rfl) ?_;dsimp only));refine Kd.R_lit (Kd.int .i64) _ 3 ?hg (N:=21) ?hd (xs:=([0,1]:List Int)) (inner:=[.int .i64 0,.int .i64 1]) (ok:=fun _=>True) (okp:=fun _=>True) ?hr ?hp (fun _ hk=>hk) trivial (Below.refl _ _) (Nat.le_refl _) (by simp) ?_;(case hd=>rfl);(case hg=>rfl);(case hr=>first | (go_simp;done) | (go_simp;rfl));(case hp=>exact (Reps.one (show Kd.M (Kd.int .i64) _ _ _ 0 [.int .i64 0] from rfl) (Reps.one (show Kd.M (Kd.int .i64) _ _ _ 1 [.int .i64 1] from rfl) (Reps.none _ _))));intro v328 w17 ho18 hb hg_ hnew_;clear hg_ hnew_;(first | rw [← Ny327.out] at ho18 | (simp only [Int.reduceToNat] at ho18;rw [← Ny327.out] at ho18));have HO329:=A_ (Kd.R_lower (Kd.R_new' (Kd.R_new' ho18 (Kd.R_lt HO312.out)) (Kd.R_lt HO326.out)) (below_size (bl HB)));replace HO312:=A_ (Kd.R_elder' HO312.out (Kd.R_base ho18) hb);replace HO316:=rB HO316 hb;replace HO326:=A_ (Kd.R_elder' HO326.out (Kd.R_base ho18) hb);replace BK322:=kB BK322 hb;replace BK323:=kB BK323 hb;replace HB:=bB HB hb;clear hb ho18;obtain ⟨Ao19,co19,eo19⟩:=Kd.R_slice HO329.out;subst eo19) | ((with_reducible refine gate_dst (N:=23) rfl ?_);(try (refine gate_guard (by rfl) ?_;dsimp only));refine Kd.R_lit (Kd.int .i64) _ 3 ?hg (N:=23) ?hd (xs:=([0]:List Int)) (inner:=[.int .i64 0]) (ok:=fun _=>True) (okp:=fun _=>True) ?hr ?hp (fun _ hk=>hk) trivial (Below.refl _ _) (Nat.le_refl _) (by simp) ?_;(case hd=>rfl);(case hg=>rfl);(case hr=>first | (go_simp;done) | (go_simp;rfl));(case hp=>exact (Reps.one (show Kd.M (Kd.int .i64) _ _ _ 0 [.int .i64 0] from rfl) (Reps.none _ _)));intro v331 w20 ho21 hb hg_ hnew_;clear hg_ hnew_;(first | rw [← Ny330.out] at ho21 | (simp only [Int.reduceToNat] at ho21;rw [← Ny330.out] at ho21));have HO332:=A_ (Kd.R_lower (Kd.R_new' (Kd.R_new' (Kd.R_new' ho21 (Kd.R_lt HO312.out)) (Kd.R_lt HO326.out)) (Kd.R_lt HO329.out)) (below_size (bl HB)));replace HO312:=A_ (Kd.R_elder' HO312.out (Kd.R_base ho21) hb);replace HO316:=rB HO316 hb;replace HO326:=A_ (Kd.R_elder' HO326.out (Kd.R_base ho21) hb);replace HO329:=A_ (Kd.R_elder' HO329.out (Kd.R_base ho21) hb);replace BK322:=kB BK322 hb;replace BK323:=kB BK323 hb;replace HB:=bB HB hb;clear hb ho21;obtain ⟨Ao22,co22,eo22⟩:=Kd.R_slice HO332.out;subst eo22) | ((with_reducible refine gate_dst (N:=25) rfl ?_);(try (refine gate_guard (by rfl) ?_;dsimp only));refine Kd.N_lit k45 _ 45 ?hg (N':=25) ?hd (xs:=([(⟨1,y327⟩:S45),(⟨1,y330⟩:S45)]:List (S45))) (inner:=[.int .i64 1,.slice Ao19 y327.length co19,.int .i64 1,.slice Ao22 y330.length co22]) (ok:=(fun k_=>some k_ ≠ (.slice Ao7 y310.length co7:Value).ownBlock ∧ some k_ ≠ (v315:Value).ownBlock ∧ some k_ ≠ (v325:Value).ownBlock ∧ k_ ≠ gb322 ∧ k_ ≠ gb323)) (okp:=(fun k_=>some k_ ≠ (.slice Ao7 y310.length co7:Value).ownBlock ∧ some k_ ≠ (v315:Value).ownBlock ∧ some k_ ≠ (v325:Value).ownBlock ∧ k_ ≠ gb322 ∧ k_ ≠ gb323)) ?hr ?hp (fun _ hk=>hk) ((show ∀ k_,w20.heap.size ≤ k_ → (fun k_=>some k_ ≠ (.slice Ao7 y310.length co7:Value).ownBlock ∧ some k_ ≠ (v315:Value).ownBlock ∧ some k_ ≠ (v325:Value).ownBlock ∧ k_ ≠ gb322 ∧ k_ ≠ gb323) k_ from fun k_ hk=>⟨Kd.fresh' (Kd.R_lt HO312.out) k_ hk,Kd.fresh' (Kd.R_lt HO316.out) k_ hk,Kd.fresh' (Kd.R_lt HO326.out) k_ hk,Kd.freshB (g:=gb322) (o:=.cells #[.int .i64 t317,.int .i64 t318] 23 (0,0)) BK322.out k_ hk,Kd.freshB (g:=gb323) (o:=.cells #[.int .i64 t319,.int .i64 t320] 23 (0,0)) BK323.out k_ hk⟩) _ (Nat.le_refl _)) (Below.refl _ _) (Nat.le_refl _) (by simp) ?_;(case hd=>rfl);(case hg=>rfl);(case hr=>first | (go_simp;done) | (go_simp;rfl));(case hp=>exact (Reps.c2 (show Kd.FK k45 _ _ (⟨1,y327⟩:S45) [.int .i64 1,.slice Ao19 y327.length co19] from (k45_mkF _ _ (⟨1,y327⟩:S45) (Kd.R_reads' (Kd.R_mono (ok':=(fun k_=>some k_ ≠ (.slice Ao7 y310.length co7:Value).ownBlock ∧ some k_ ≠ (v315:Value).ownBlock ∧ some k_ ≠ (v325:Value).ownBlock ∧ k_ ≠ gb322 ∧ k_ ≠ gb323)) (Kd.R_types (Kd.R_types (Kd.R_apart' (HO329.out) (Kd.R_typed HO316.out) (by decide)) BK322.out (by decide)) BK323.out (by decide)) (fun k_ hk=>⟨hk.1.1.1.1.1.2,⟨hk.1.1.2,⟨hk.1.1.1.1.2,⟨hk.1.2,hk.2⟩⟩⟩⟩))).2.1 (Kd.R_F (Kd.R_mono (ok':=(fun k_=>some k_ ≠ (.slice Ao7 y310.length co7:Value).ownBlock ∧ some k_ ≠ (v315:Value).ownBlock ∧ some k_ ≠ (v325:Value).ownBlock ∧ k_ ≠ gb322 ∧ k_ ≠ gb323)) (Kd.R_types (Kd.R_types (Kd.R_apart' (HO329.out) (Kd.R_typed HO316.out) (by decide)) BK322.out (by decide)) BK323.out (by decide)) (fun k_ hk=>⟨hk.1.1.1.1.1.2,⟨hk.1.1.2,⟨hk.1.1.1.1.2,⟨hk.1.2,hk.2⟩⟩⟩⟩))))) (Reps.c2 (show Kd.FK k45 _ _ (⟨1,y330⟩:S45) [.int .i64 1,.slice Ao22 y330.length co22] from (k45_mkF _ _ (⟨1,y330⟩:S45) (Kd.R_reads' (Kd.R_mono (ok':=(fun k_=>some k_ ≠ (.slice Ao7 y310.length co7:Value).ownBlock ∧ some k_ ≠ (v315:Value).ownBlock ∧ some k_ ≠ (v325:Value).ownBlock ∧ k_ ≠ gb322 ∧ k_ ≠ gb323)) (Kd.R_types (Kd.R_types (Kd.R_apart' (HO332.out) (Kd.R_typed HO316.out) (by decide)) BK322.out (by decide)) BK323.out (by decide)) (fun k_ hk=>⟨hk.1.1.1.1.1.2,⟨hk.1.1.2,⟨hk.1.1.1.1.2,⟨hk.1.2,hk.2⟩⟩⟩⟩))).2.1 (Kd.R_F (Kd.R_mono (ok':=(fun k_=>some k_ ≠ (.slice Ao7 y310.length co7:Value).ownBlock ∧ some k_ ≠ (v315:Value).ownBlock ∧ some k_ ≠ (v325:Value).ownBlock ∧ k_ ≠ gb322 ∧ k_ ≠ gb323)) (Kd.R_types (Kd.R_types (Kd.R_apart' (HO332.out) (Kd.R_typed HO316.out) (by decide)) BK322.out (by decide)) BK323.out (by decide)) (fun k_ hk=>⟨hk.1.1.1.1.1.2,⟨hk.1.1.2,⟨hk.1.1.1.1.2,⟨hk.1.2,hk.2⟩⟩⟩⟩))))) (Reps.none _ _))));intro v334 w23 ho24 hb hg_ hnew_;clear hg_ hnew_;(first | rw [← Ny333.out] at ho24 | (simp only [Int.reduceToNat] at ho24;rw [← Ny333.out] at ho24));have HO335:=A_ (Kd.N_lower ho24 (below_size (bl HB)));replace HO312:=rB HO312 hb;replace HO316:=rB HO316 hb;replace HO326:=rB HO326 hb;replace BK322:=kB BK322 hb;replace BK323:=kB BK323 hb;replace HB:=bB HB hb;clear HO329 HO332;clear hb ho24;obtain ⟨Ao25,co25,eo25⟩:=Kd.R_slice HO326.out;subst eo25;obtain ⟨Ao26,co26,eo26⟩:=Kd.N_slice HO335.out;subst eo26) | ((with_reducible refine gate_callee (f:=32) rfl ?_);refine gL (some 26) Try.func32 #[.slice Ao25 y324.length co25,.slice Ao26 y333.length co26] ?_;(with_reducible refine (shares_Fair.calls k _ _ y324 _ _ y333 t336 t337 t338 _ ?side1 ?side2 ?side3 ?side4 A3.out).mono ?_);(case side1=>repeat (first | exact (Kd.R_reads' HO326.out).2.2 | (with_reducible refine Kd.C_alloc ?_ _) | (with_reducible refine Kd.C_drewN ?_ _) | (with_reducible refine Kd.C_drew ?_)));(case side2=>exact (Kd.R_reads' HO326.out).2.1);(case side3=>repeat (first | exact (Kd.N_reads' HO335.out).2.2 | (with_reducible refine Kd.C_alloc ?_ _) | (with_reducible refine Kd.C_drewN ?_ _) | (with_reducible refine Kd.C_drew ?_)));(case side4=>exact (Kd.N_reads' HO335.out).2.1);rintro e w27 ⟨v339,v341,rfl,ho0,ho1,hb⟩;refine ⟨_,rfl,?_⟩;have HO340:=A_ (Kd.R_lower (Kd.R_newB (Kd.R_newB (Kd.R_new' ho0 (Kd.R_lt HO316.out)) (g:=gb322) (o:=.cells #[.int .i64 t317,.int .i64 t318] 23 (0,0)) BK322.out) (g:=gb323) (o:=.cells #[.int .i64 t319,.int .i64 t320] 23 (0,0)) BK323.out) (below_size (bl HB)));have HO342:=A_ (Kd.R_lower (Kd.R_new' (Kd.R_new' ho1 (Kd.R_lt HO312.out)) (Kd.R_lt HO326.out)) (below_size (bl HB)));replace HO312:=A_ (Kd.R_elder' HO312.out (Kd.R_base ho1) hb);replace HO316:=A_ (Kd.R_elder' HO316.out (Kd.R_base ho0) hb);replace HO326:=A_ (Kd.R_elder' HO326.out (Kd.R_base ho1) hb);replace HO335:=A_ (Kd.N_mono (Kd.N_told (Kd.N_told (Kd.N_old HO335.out hb) (Kd.R_base ho0)) (Kd.R_base ho1)) (fun _ h_=>h_.1));replace BK322:=kB BK322 hb;replace BK323:=kB BK323 hb;replace HB:=bB HB hb;(try clear hb)))
 (try simp only [Act.put,List.setIfInBounds_toArray,List.set_cons_zero,List.set_cons_succ])
 go_cut [72] (fun v72 wc=>∃ (kq:Nat) (x72_3:Bool),v72 = .bool x72_3 ∧ Aside0 (numnahlaw07_awake.j0 kq x72_3 = some r) ∧ Aside0 (kq ≤ k) ∧ Aside0 (wc.heap[gb322]? = some (.cells #[.int .i64 t317,.int .i64 t318] 23 (0,0))) ∧ Aside0 (wc.heap[gb323]? = some (.cells #[.int .i64 t319,.int .i64 t320] 23 (0,0))) ∧ Aside0 (Below w.heap.size w wc))
 case first =>
  have H:=HC4.out
  clear HC4
  by_cases c28:t314 = 0
  case neg =>
   rw [if_neg c28] at H
   have c28b0:(t314 == 0) = false:=beq_eq_false_iff_ne.mpr c28
   have c28b1:(t314 != 0) = true:=bne_iff_ne.mpr c28
   (first | rw [c28b0] | (simp only [i64_w,i32_w];rw [c28b0]) | skip)
   have H':=A_ H
   clear H
   try go_wp2
   replace HO312:=rD HO312
   replace HO316:=rD HO316
   replace HO326:=rD HO326
   replace HO335:=nD HO335
   replace HO340:=rD HO340
   replace HO342:=rD HO342
   replace BK322:=kD BK322
   replace BK323:=kD BK323
   replace HB:=bD HB
   refine st 43 (fun w'=>True) [] numnahlaw07_awake.tab4 numnahlaw07_awake.bits4 (fun hHeld HT_ HW_=>?_)
   generalize w27.drew = w126 at HO312 HO316 HO326 HO335 HO340 HO342 BK322 BK323 HB hHeld ⊢
   refine pq 0 30 1 HT_ ?_
   refine pq 1 31 3 HT_ ?_
   refine pq 2 32 7 HT_ ?_
   refine pu 3 33 15 HT_ ?_
   refine pu 4 34 31 HT_ ?_
   refine pu 5 35 63 HT_ ?_
   refine pu 6 36 127 HT_ ?_
   refine pu 7 37 255 HT_ ?_
   refine pu 8 38 511 HT_ ?_
   refine pu 9 39 1023 HT_ ?_
   refine pq 10 40 2047 HT_ ?_
   refine pq 11 41 4095 HT_ ?_
   refine pu 12 42 8191 HT_ ?_
   refine pu 13 43 16383 HT_ ?_
   refine pq 14 44 32767 HT_ ?_
   refine pq 15 45 65535 HT_ ?_
   refine pu 16 46 131071 HT_ ?_
   refine pu 17 47 262143 HT_ ?_
   refine pu 18 48 524287 HT_ ?_
   refine pq 19 49 1048575 HT_ ?_
   refine pq 20 50 2097151 HT_ ?_
   refine pu 21 51 4194303 HT_ ?_
   refine pu 22 52 8388607 HT_ ?_
   refine pu 23 53 16777215 HT_ ?_
   refine pq 24 54 33554431 HT_ ?_
   refine pq 25 55 67108863 HT_ ?_
   refine pu 26 56 134217727 HT_ ?_
   refine pu 27 57 268435455 HT_ ?_
   refine pq 28 58 536870911 HT_ ?_
   refine pq 29 59 1073741823 HT_ ?_
   refine pu 30 60 2147483647 HT_ ?_
   refine pu 31 61 4294967295 HT_ ?_
   refine pu 32 62 8589934591 HT_ ?_
   refine pu 33 63 17179869183 HT_ ?_
   refine pu 34 64 34359738367 HT_ ?_
   refine pu 35 65 68719476735 HT_ ?_
   refine pq 36 66 137438953471 HT_ ?_
   refine pq 37 67 274877906943 HT_ ?_
   refine pu 38 68 549755813887 HT_ ?_
   refine pu 39 69 1099511627775 HT_ ?_
   refine pu 40 70 2199023255551 HT_ ?_
   refine pu 41 71 4398046511103 HT_ ?_
   refine pq 42 72 8796093022207 HT_ ?_
   refine done_ (done_of HT_.out (by kernel_rfl)) ?_
   try go_wp2
   go_meet
   case rel=>exact ⟨_,(true),rfl,H',⟨by first | omega | exact Nat.le_refl _⟩,⟨by (with_reducible repeat (first | refine blk_drewN ?_ _ | refine blk_drew ?_ | refine blk_alloc ?_ _));exact BK322.out⟩,⟨by (with_reducible repeat (first | refine blk_drewN ?_ _ | refine blk_drew ?_ | refine blk_alloc ?_ _));exact BK323.out⟩,⟨bl HB⟩⟩
  rw [if_pos c28] at H
  have c28b0:(t314 == 0) = true:=beq_iff_eq.mpr c28
  have c28b1:(t314 != 0) = false:=bne_eq_false_iff_eq.mpr c28
  clear c28
  (first | rw [c28b0] | (simp only [i64_w,i32_w];rw [c28b0]) | skip)
  replace H:=Option.bind_eq_some_iff.mp H
  obtain ⟨⟨t343,t344⟩,A290,H⟩:=H
  dsimp only at H
  have A29:=A_ A290
  clear A290
  replace H:=Option.bind_eq_some_iff.mp H
  obtain ⟨⟨t345,t346⟩,A300,H⟩:=H
  dsimp only at H
  have A30:=A_ A300
  clear A300
  replace H:=Option.bind_eq_some_iff.mp H
  obtain ⟨⟨t347,t348⟩,A310,H⟩:=H
  dsimp only at H
  have A31:=A_ A310
  clear A310
  obtain ⟨y349,hy349⟩:∃ y_:List (S23),y_ = (([(⟨t343,t344⟩:S23),(⟨t345,t346⟩:S23),(⟨t347,t348⟩:S23)]:List (S23))):=⟨_,rfl⟩
  replace H:((numnahref07_Same.f k t313 y349).bind fun t352=>(if t352 = true then (if t321 = 0 then ((numnahref07_Whole.f 25).bind fun bt353=>(if (!(t317 == bt353.1) || (!(t318 == bt353.2))) = true then (numnahlaw07_awake.j0 k true) else ((numnahref07_Whole.f 75).bind fun bt355=>(if (!(t319 == bt355.1) || (!(t320 == bt355.2))) = true then (numnahlaw07_awake.j0 k true) else (if t338 = 0 then ((numnahref07_Whole.f 4).bind fun bt357=>((numnahref07_Whole.f 6).bind fun bt359=>((numnahref07_Same.f k t336 (([(⟨bt357.1,bt357.2⟩:S23),(⟨bt359.1,bt359.2⟩:S23)]:List (S23)))).bind fun t364=>(if t364 = true then ((numnahlaw07_ints.f k t337 (([1,0]:List Int))).bind fun t368=>(numnahlaw07_awake.j0 k (!t368))) else (numnahlaw07_awake.j0 k true))))) else (numnahlaw07_awake.j0 k true)))))) else (numnahlaw07_awake.j0 k true)) else (numnahlaw07_awake.j0 k true))) = some r:=by rw [hy349];exact H
  have Ny349:=A_ hy349
  clear hy349
  replace H:=Option.bind_eq_some_iff.mp H
  obtain ⟨t352,A320,H⟩:=H
  replace H:(if t352 = true then (if t321 = 0 then ((numnahref07_Whole.f 25).bind fun bt353=>(if (!(t317 == bt353.1) || (!(t318 == bt353.2))) = true then (numnahlaw07_awake.j0 k true) else ((numnahref07_Whole.f 75).bind fun bt355=>(if (!(t319 == bt355.1) || (!(t320 == bt355.2))) = true then (numnahlaw07_awake.j0 k true) else (if t338 = 0 then ((numnahref07_Whole.f 4).bind fun bt357=>((numnahref07_Whole.f 6).bind fun bt359=>((numnahref07_Same.f k t336 (([(⟨bt357.1,bt357.2⟩:S23),(⟨bt359.1,bt359.2⟩:S23)]:List (S23)))).bind fun t364=>(if t364 = true then ((numnahlaw07_ints.f k t337 (([1,0]:List Int))).bind fun t368=>(numnahlaw07_awake.j0 k (!t368))) else (numnahlaw07_awake.j0 k true))))) else (numnahlaw07_awake.j0 k true)))))) else (numnahlaw07_awake.j0 k true)) else (numnahlaw07_awake.j0 k true)) = some r:=H
  have A32:=A_ A320
  clear A320
  by_cases c33:t352 = true
  case neg =>
   replace c33:=Bool.eq_false_iff.mpr c33
   subst c33
   have H1:(numnahlaw07_awake.j0 k true) = some r:=by rw [if_neg (show ¬ (false = true) by decide)] at H;exact H
   exact absurd (H1.trans (congrArg some HRT.out)) (j0_no k)
  subst c33
  have H1:(if t321 = 0 then ((numnahref07_Whole.f 25).bind fun bt353=>(if (!(t317 == bt353.1) || (!(t318 == bt353.2))) = true then (numnahlaw07_awake.j0 k true) else ((numnahref07_Whole.f 75).bind fun bt355=>(if (!(t319 == bt355.1) || (!(t320 == bt355.2))) = true then (numnahlaw07_awake.j0 k true) else (if t338 = 0 then ((numnahref07_Whole.f 4).bind fun bt357=>((numnahref07_Whole.f 6).bind fun bt359=>((numnahref07_Same.f k t336 (([(⟨bt357.1,bt357.2⟩:S23),(⟨bt359.1,bt359.2⟩:S23)]:List (S23)))).bind fun t364=>(if t364 = true then ((numnahlaw07_ints.f k t337 (([1,0]:List Int))).bind fun t368=>(numnahlaw07_awake.j0 k (!t368))) else (numnahlaw07_awake.j0 k true))))) else (numnahlaw07_awake.j0 k true)))))) else (numnahlaw07_awake.j0 k true)) = some r:=by rw [if_pos rfl] at H;exact H
  clear H
  have H:=H1
  clear H1
  by_cases c34:t321 = 0
  case neg =>
   rw [if_neg c34] at H
   have c34b0:(t321 == 0) = false:=beq_eq_false_iff_ne.mpr c34
   have c34b1:(t321 != 0) = true:=bne_iff_ne.mpr c34
   have H':=A_ H
   clear H
   try go_wp2
   replace HO312:=rD HO312
   replace HO316:=rD HO316
   replace HO326:=rD HO326
   replace HO335:=nD HO335
   replace HO340:=rD HO340
   replace HO342:=rD HO342
   replace BK322:=kD BK322
   replace BK323:=kD BK323
   replace HB:=bD HB
   refine st 43 (fun w'=>True) [] numnahlaw07_awake.tab4 numnahlaw07_awake.bits4 (fun hHeld HT_ HW_=>?_)
   generalize w27.drew = w110 at HO312 HO316 HO326 HO335 HO340 HO342 BK322 BK323 HB hHeld ⊢
   refine pq 0 30 1 HT_ ?_
   refine pq 1 31 3 HT_ ?_
   refine pq 2 32 7 HT_ ?_
   refine pq 3 33 15 HT_ ?_
   refine oq 4 34 31 HT_ (fun K hK=>?_)
   refine gq Try.func23 #[.int .i64 50] ?_
   with_reducible refine (numnahref07_Whole.calls 50 t343 t344 _ A29.out).mono ?_
   rintro e w111 ⟨rfl,hb⟩
   refine ⟨_,rfl,?_⟩
   replace HO312:=rB HO312 hb
   replace HO316:=rB HO316 hb
   replace HO326:=rB HO326 hb
   replace HO335:=nB HO335 hb
   replace HO340:=rB HO340 hb
   replace HO342:=rB HO342 hb
   replace BK322:=kB BK322 hb
   replace BK323:=kB BK323 hb
   replace HB:=bB HB hb
   (try clear hb)
   refine hz hK (fun hHeld=>?_)
   clear hK K
   refine nq 34 ?_
   refine oq 5 35 63 HT_ (fun K hK=>?_)
   refine gq Try.func23 #[.int .i64 100] ?_
   with_reducible refine (numnahref07_Whole.calls 100 t345 t346 _ A30.out).mono ?_
   rintro e w112 ⟨rfl,hb⟩
   refine ⟨_,rfl,?_⟩
   replace HO312:=rB HO312 hb
   replace HO316:=rB HO316 hb
   replace HO326:=rB HO326 hb
   replace HO335:=nB HO335 hb
   replace HO340:=rB HO340 hb
   replace HO342:=rB HO342 hb
   replace BK322:=kB BK322 hb
   replace BK323:=kB BK323 hb
   replace HB:=bB HB hb
   (try clear hb)
   refine hz hK (fun hHeld=>?_)
   clear hK K
   refine nq 35 ?_
   refine oq 6 36 127 HT_ (fun K hK=>?_)
   refine gq Try.func23 #[.int .i64 150] ?_
   with_reducible refine (numnahref07_Whole.calls 150 t347 t348 _ A31.out).mono ?_
   rintro e w113 ⟨rfl,hb⟩
   refine ⟨_,rfl,?_⟩
   replace HO312:=rB HO312 hb
   replace HO316:=rB HO316 hb
   replace HO326:=rB HO326 hb
   replace HO335:=nB HO335 hb
   replace HO340:=rB HO340 hb
   replace HO342:=rB HO342 hb
   replace BK322:=kB BK322 hb
   replace BK323:=kB BK323 hb
   replace HB:=bB HB hb
   (try clear hb)
   refine hz hK (fun hHeld=>?_)
   clear hK K
   refine nq 36 ?_
   refine oq 7 37 255 HT_ (fun K hK=>?_)
   refine Kd.R_lit_step k23 _ 23 ?hg (N:=37) ?hd (xs:=([(⟨t343,t344⟩:S23),(⟨t345,t346⟩:S23),(⟨t347,t348⟩:S23)]:List (S23))) (inner:=[.int .i64 t343,.int .i64 t344,.int .i64 t345,.int .i64 t346,.int .i64 t347,.int .i64 t348]) (ok:=fun _=>True) (okp:=fun _=>True) ?hr ?hp (fun _ hk=>hk) trivial (Below.refl _ _) (Nat.le_refl _) (by simp) ?_;(case hd=>rfl);(case hg=>rfl);(case hr=>first | (go_simp;done) | (go_simp;rfl));(case hp=>exact (Reps.c2 (show Kd.M k23 _ _ _ (⟨t343,t344⟩:S23) [.int .i64 t343,.int .i64 t344] from (k23_mkM _ _ _ (⟨t343,t344⟩:S23) )) (Reps.c2 (show Kd.M k23 _ _ _ (⟨t345,t346⟩:S23) [.int .i64 t345,.int .i64 t346] from (k23_mkM _ _ _ (⟨t345,t346⟩:S23) )) (Reps.c2 (show Kd.M k23 _ _ _ (⟨t347,t348⟩:S23) [.int .i64 t347,.int .i64 t348] from (k23_mkM _ _ _ (⟨t347,t348⟩:S23) )) (Reps.none _ _)))))
   intro v350 w114 ho115 hb hg_ hnew_
   clear hg_ hnew_
   (first | rw [← Ny349.out] at ho115 | (simp only [Int.reduceToNat] at ho115;rw [← Ny349.out] at ho115))
   have HO351:=A_ (Kd.R_lower (Kd.R_newB (Kd.R_newB (Kd.R_new' (Kd.R_new' ho115 (Kd.R_lt (rs HO316))) (Kd.R_lt (rs HO340))) (g:=gb322) (o:=.cells #[.int .i64 t317,.int .i64 t318] 23 (0,0)) BK322.out) (g:=gb323) (o:=.cells #[.int .i64 t319,.int .i64 t320] 23 (0,0)) BK323.out) (below_size HB.out))
   replace HO312:=rB HO312 hb
   replace HO316:=A_ (Kd.R_elder' (rs HO316) (Kd.R_base ho115) hb)
   replace HO326:=rB HO326 hb
   replace HO335:=A_ (Kd.N_elder' (ns HO335) (Kd.R_base ho115) hb)
   replace HO340:=A_ (Kd.R_elder' (rs HO340) (Kd.R_base ho115) hb)
   replace HO342:=rB HO342 hb
   replace BK322:=kB BK322 hb
   replace BK323:=kB BK323 hb
   replace HB:=bB HB hb
   clear hb ho115
   obtain ⟨Ao116,co116,eo116⟩:=Kd.R_slice HO316.out
   (first | subst eo116 | (injection eo116 with f1_ f2_ f3_;have f4_:=f1_.symm;have f5_:=f3_.symm;clear f1_ f2_ f3_;subst f4_;subst f5_))
   obtain ⟨Ao117,co117,eo117⟩:=Kd.R_slice HO351.out
   (first | subst eo117 | (injection eo117 with f1_ f2_ f3_;have f4_:=f1_.symm;have f5_:=f3_.symm;clear f1_ f2_ f3_;subst f4_;subst f5_))
   refine hz hK (fun hHeld=>?_)
   clear hK K
   refine nq 37 ?_
   refine oq 8 38 511 HT_ (fun K hK=>?_)
   refine gq Try.func33 #[.slice Ao116 t313.length co116,.slice Ao117 y349.length co117] ?_
   with_reducible refine (numnahref07_Same.calls k _ _ t313 _ _ y349 true _ ?side1 ?side2 ?side3 ?side4 A32.out).mono ?_
   (case side1=>repeat (first | exact (Kd.R_reads' HO316.out).2.2 | (with_reducible refine Kd.C_alloc ?_ _) | (with_reducible refine Kd.C_drewN ?_ _) | (with_reducible refine Kd.C_drew ?_)))
   (case side2=>exact (Kd.R_reads' HO316.out).2.1)
   (case side3=>repeat (first | exact (Kd.R_reads' HO351.out).2.2 | (with_reducible refine Kd.C_alloc ?_ _) | (with_reducible refine Kd.C_drewN ?_ _) | (with_reducible refine Kd.C_drew ?_)))
   (case side4=>exact (Kd.R_reads' HO351.out).2.1)
   rintro e w' ⟨rfl,⟨nd,rfl⟩⟩
   refine ⟨_,rfl,?_⟩
   refine hz hK (fun hHeld=>?_)
   clear hK K
   refine nq 38 ?_
   refine pq 9 39 1023 HT_ ?_
   refine pq 10 40 2047 HT_ ?_
   refine pq 11 41 4095 HT_ ?_
   refine pq 12 42 8191 HT_ ?_
   refine pq 13 43 16383 HT_ ?_
   refine pq 14 44 32767 HT_ ?_
   refine pq 15 45 65535 HT_ ?_
   refine pu 16 46 131071 HT_ ?_
   refine pu 17 47 262143 HT_ ?_
   refine pu 18 48 524287 HT_ ?_
   refine pq 19 49 1048575 HT_ ?_
   refine pq 20 50 2097151 HT_ ?_
   refine pu 21 51 4194303 HT_ ?_
   refine pu 22 52 8388607 HT_ ?_
   refine pu 23 53 16777215 HT_ ?_
   refine pq 24 54 33554431 HT_ ?_
   refine pq 25 55 67108863 HT_ ?_
   refine pu 26 56 134217727 HT_ ?_
   refine pu 27 57 268435455 HT_ ?_
   refine pq 28 58 536870911 HT_ ?_
   refine pq 29 59 1073741823 HT_ ?_
   refine pu 30 60 2147483647 HT_ ?_
   refine pu 31 61 4294967295 HT_ ?_
   refine pu 32 62 8589934591 HT_ ?_
   refine pu 33 63 17179869183 HT_ ?_
   refine pu 34 64 34359738367 HT_ ?_
   refine pu 35 65 68719476735 HT_ ?_
   refine pq 36 66 137438953471 HT_ ?_
   refine pq 37 67 274877906943 HT_ ?_
   refine pu 38 68 549755813887 HT_ ?_
   refine pu 39 69 1099511627775 HT_ ?_
   refine pu 40 70 2199023255551 HT_ ?_
   refine pu 41 71 4398046511103 HT_ ?_
   refine pq 42 72 8796093022207 HT_ ?_
   refine done_ (done_of HT_.out (by kernel_rfl)) ?_
   try go_wp2
   go_meet
   case rel=>exact ⟨_,(true),rfl,H',⟨by first | omega | exact Nat.le_refl _⟩,⟨by (with_reducible repeat (first | refine blk_drewN ?_ _ | refine blk_drew ?_ | refine blk_alloc ?_ _));exact BK322.out⟩,⟨by (with_reducible repeat (first | refine blk_drewN ?_ _ | refine blk_drew ?_ | refine blk_alloc ?_ _));exact BK323.out⟩,⟨bl HB⟩⟩
  rw [if_pos c34] at H
  have c34b0:(t321 == 0) = true:=beq_iff_eq.mpr c34
  have c34b1:(t321 != 0) = false:=bne_eq_false_iff_eq.mpr c34
  clear c34
  replace H:=Option.bind_eq_some_iff.mp H
  obtain ⟨⟨t353,t354⟩,A350,H⟩:=H
  dsimp only at H
  have A35:=A_ A350
  clear A350
  by_cases c36:(!(t317 == t353) || (!(t318 == t354))) = true
  ·rw [if_pos c36] at H
   exact absurd (H.trans (congrArg some HRT.out)) (j0_no k)
  rw [if_neg c36] at H
  have c36b0:(!(t317 == t353) || (!(t318 == t354))) = false:=by simpa using c36
  clear c36
  replace H:=Option.bind_eq_some_iff.mp H
  obtain ⟨⟨t355,t356⟩,A460,H⟩:=H
  dsimp only at H
  have A46:=A_ A460
  clear A460
  by_cases c47:(!(t319 == t355) || (!(t320 == t356))) = true
  ·rw [if_pos c47] at H
   exact absurd (H.trans (congrArg some HRT.out)) (j0_no k)
  rw [if_neg c47] at H
  have c47b0:(!(t319 == t355) || (!(t320 == t356))) = false:=by simpa using c47
  clear c47
  by_cases c58:t338 = 0
  case neg =>
   rw [if_neg c58] at H
   have c58b0:(t338 == 0) = false:=beq_eq_false_iff_ne.mpr c58
   have c58b1:(t338 != 0) = true:=bne_iff_ne.mpr c58
   have H':=A_ H
   clear H
   try go_wp2
   replace HO312:=rD HO312
   replace HO316:=rD HO316
   replace HO326:=rD HO326
   replace HO335:=nD HO335
   replace HO340:=rD HO340
   replace HO342:=rD HO342
   replace BK322:=kD BK322
   replace BK323:=kD BK323
   replace HB:=bD HB
   refine st 43 (fun w'=>w'.cell? ⟨gb322,0,none⟩ = some (.int .i64 t317) ∧ w'.cell? ⟨gb322,1,none⟩ = some (.int .i64 t318) ∧ w'.cell? ⟨gb323,0,none⟩ = some (.int .i64 t319) ∧ w'.cell? ⟨gb323,1,none⟩ = some (.int .i64 t320)) [] numnahlaw07_awake.tab4 numnahlaw07_awake.bits4 (fun hHeld HT_ HW_=>?_)
   generalize w27.drew = w100 at HO312 HO316 HO326 HO335 HO340 HO342 BK322 BK323 HB hHeld ⊢
   refine pq 0 30 1 HT_ ?_
   refine pq 1 31 3 HT_ ?_
   refine pq 2 32 7 HT_ ?_
   refine pq 3 33 15 HT_ ?_
   refine oq 4 34 31 HT_ (fun K hK=>?_)
   refine gq Try.func23 #[.int .i64 50] ?_
   with_reducible refine (numnahref07_Whole.calls 50 t343 t344 _ A29.out).mono ?_
   rintro e w101 ⟨rfl,hb⟩
   refine ⟨_,rfl,?_⟩
   replace HO312:=rB HO312 hb
   replace HO316:=rB HO316 hb
   replace HO326:=rB HO326 hb
   replace HO335:=nB HO335 hb
   replace HO340:=rB HO340 hb
   replace HO342:=rB HO342 hb
   replace BK322:=kB BK322 hb
   replace BK323:=kB BK323 hb
   replace HB:=bB HB hb
   (try clear hb)
   refine hz hK (fun hHeld=>?_)
   clear hK K
   refine nq 34 ?_
   refine oq 5 35 63 HT_ (fun K hK=>?_)
   refine gq Try.func23 #[.int .i64 100] ?_
   with_reducible refine (numnahref07_Whole.calls 100 t345 t346 _ A30.out).mono ?_
   rintro e w102 ⟨rfl,hb⟩
   refine ⟨_,rfl,?_⟩
   replace HO312:=rB HO312 hb
   replace HO316:=rB HO316 hb
   replace HO326:=rB HO326 hb
   replace HO335:=nB HO335 hb
   replace HO340:=rB HO340 hb
   replace HO342:=rB HO342 hb
   replace BK322:=kB BK322 hb
   replace BK323:=kB BK323 hb
   replace HB:=bB HB hb
   (try clear hb)
   refine hz hK (fun hHeld=>?_)
   clear hK K
   refine nq 35 ?_
   refine oq 6 36 127 HT_ (fun K hK=>?_)
   refine gq Try.func23 #[.int .i64 150] ?_
   with_reducible refine (numnahref07_Whole.calls 150 t347 t348 _ A31.out).mono ?_
   rintro e w103 ⟨rfl,hb⟩
   refine ⟨_,rfl,?_⟩
   replace HO312:=rB HO312 hb
   replace HO316:=rB HO316 hb
   replace HO326:=rB HO326 hb
   replace HO335:=nB HO335 hb
   replace HO340:=rB HO340 hb
   replace HO342:=rB HO342 hb
   replace BK322:=kB BK322 hb
   replace BK323:=kB BK323 hb
   replace HB:=bB HB hb
   (try clear hb)
   refine hz hK (fun hHeld=>?_)
   clear hK K
   refine nq 36 ?_
   refine oq 7 37 255 HT_ (fun K hK=>?_)
   refine Kd.R_lit_step k23 _ 23 ?hg (N:=37) ?hd (xs:=([(⟨t343,t344⟩:S23),(⟨t345,t346⟩:S23),(⟨t347,t348⟩:S23)]:List (S23))) (inner:=[.int .i64 t343,.int .i64 t344,.int .i64 t345,.int .i64 t346,.int .i64 t347,.int .i64 t348]) (ok:=fun _=>True) (okp:=fun _=>True) ?hr ?hp (fun _ hk=>hk) trivial (Below.refl _ _) (Nat.le_refl _) (by simp) ?_;(case hd=>rfl);(case hg=>rfl);(case hr=>first | (go_simp;done) | (go_simp;rfl));(case hp=>exact (Reps.c2 (show Kd.M k23 _ _ _ (⟨t343,t344⟩:S23) [.int .i64 t343,.int .i64 t344] from (k23_mkM _ _ _ (⟨t343,t344⟩:S23) )) (Reps.c2 (show Kd.M k23 _ _ _ (⟨t345,t346⟩:S23) [.int .i64 t345,.int .i64 t346] from (k23_mkM _ _ _ (⟨t345,t346⟩:S23) )) (Reps.c2 (show Kd.M k23 _ _ _ (⟨t347,t348⟩:S23) [.int .i64 t347,.int .i64 t348] from (k23_mkM _ _ _ (⟨t347,t348⟩:S23) )) (Reps.none _ _)))))
   intro v350 w104 ho105 hb hg_ hnew_
   clear hg_ hnew_
   (first | rw [← Ny349.out] at ho105 | (simp only [Int.reduceToNat] at ho105;rw [← Ny349.out] at ho105))
   have HO351:=A_ (Kd.R_lower (Kd.R_newB (Kd.R_newB (Kd.R_new' (Kd.R_new' ho105 (Kd.R_lt (rs HO316))) (Kd.R_lt (rs HO340))) (g:=gb322) (o:=.cells #[.int .i64 t317,.int .i64 t318] 23 (0,0)) BK322.out) (g:=gb323) (o:=.cells #[.int .i64 t319,.int .i64 t320] 23 (0,0)) BK323.out) (below_size HB.out))
   replace HO312:=rB HO312 hb
   replace HO316:=A_ (Kd.R_elder' (rs HO316) (Kd.R_base ho105) hb)
   replace HO326:=rB HO326 hb
   replace HO335:=A_ (Kd.N_elder' (ns HO335) (Kd.R_base ho105) hb)
   replace HO340:=A_ (Kd.R_elder' (rs HO340) (Kd.R_base ho105) hb)
   replace HO342:=rB HO342 hb
   replace BK322:=kB BK322 hb
   replace BK323:=kB BK323 hb
   replace HB:=bB HB hb
   clear hb ho105
   obtain ⟨Ao106,co106,eo106⟩:=Kd.R_slice HO316.out
   (first | subst eo106 | (injection eo106 with f1_ f2_ f3_;have f4_:=f1_.symm;have f5_:=f3_.symm;clear f1_ f2_ f3_;subst f4_;subst f5_))
   obtain ⟨Ao107,co107,eo107⟩:=Kd.R_slice HO351.out
   (first | subst eo107 | (injection eo107 with f1_ f2_ f3_;have f4_:=f1_.symm;have f5_:=f3_.symm;clear f1_ f2_ f3_;subst f4_;subst f5_))
   refine hz hK (fun hHeld=>?_)
   clear hK K
   refine nq 37 ?_
   refine oq 8 38 511 HT_ (fun K hK=>?_)
   refine gq Try.func33 #[.slice Ao106 t313.length co106,.slice Ao107 y349.length co107] ?_
   with_reducible refine (numnahref07_Same.calls k _ _ t313 _ _ y349 true _ ?side1 ?side2 ?side3 ?side4 A32.out).mono ?_
   (case side1=>repeat (first | exact (Kd.R_reads' HO316.out).2.2 | (with_reducible refine Kd.C_alloc ?_ _) | (with_reducible refine Kd.C_drewN ?_ _) | (with_reducible refine Kd.C_drew ?_)))
   (case side2=>exact (Kd.R_reads' HO316.out).2.1)
   (case side3=>repeat (first | exact (Kd.R_reads' HO351.out).2.2 | (with_reducible refine Kd.C_alloc ?_ _) | (with_reducible refine Kd.C_drewN ?_ _) | (with_reducible refine Kd.C_drew ?_)))
   (case side4=>exact (Kd.R_reads' HO351.out).2.1)
   rintro e w' ⟨rfl,⟨nd,rfl⟩⟩
   refine ⟨_,rfl,?_⟩
   refine hz hK (fun hHeld=>?_)
   clear hK K
   refine nq 38 ?_
   refine pq 9 39 1023 HT_ ?_
   refine pq 10 40 2047 HT_ ?_
   refine pq 11 41 4095 HT_ ?_
   refine pq 12 42 8191 HT_ ?_
   refine pq 13 43 16383 HT_ ?_
   refine pq 14 44 32767 HT_ ?_
   refine pq 15 45 65535 HT_ ?_
   refine tq 16 46 131071 HT_ HW_ hHeld ?_
   refine oq 17 47 262143 HT_ (fun K hK=>?_)
   refine gq Try.func23 #[.int .i64 25] ?_
   with_reducible refine (numnahref07_Whole.calls 25 t353 t354 _ A35.out).mono ?_
   rintro e w108 ⟨rfl,hb⟩
   refine ⟨_,rfl,?_⟩
   replace HO312:=rB HO312 hb
   replace HO316:=rB HO316 hb
   replace HO326:=rB HO326 hb
   replace HO335:=nB HO335 hb
   replace HO340:=rB HO340 hb
   replace HO342:=rB HO342 hb
   replace HO351:=rB HO351 hb
   replace BK322:=kB BK322 hb
   replace BK323:=kB BK323 hb
   replace HB:=bB HB hb
   (try clear hb)
   refine hz hK (fun hHeld=>?_)
   clear hK K
   refine nq 47 ?_
   refine pq 18 48 524287 HT_ ?_
   refine pq 19 49 1048575 HT_ ?_
   refine pq 20 50 2097151 HT_ ?_
   refine tq 21 51 4194303 HT_ HW_ hHeld ?_
   refine oq 22 52 8388607 HT_ (fun K hK=>?_)
   refine gq Try.func23 #[.int .i64 75] ?_
   with_reducible refine (numnahref07_Whole.calls 75 t355 t356 _ A46.out).mono ?_
   rintro e w109 ⟨rfl,hb⟩
   refine ⟨_,rfl,?_⟩
   replace HO312:=rB HO312 hb
   replace HO316:=rB HO316 hb
   replace HO326:=rB HO326 hb
   replace HO335:=nB HO335 hb
   replace HO340:=rB HO340 hb
   replace HO342:=rB HO342 hb
   replace HO351:=rB HO351 hb
   replace BK322:=kB BK322 hb
   replace BK323:=kB BK323 hb
   replace HB:=bB HB hb
   (try clear hb)
   refine hz hK (fun hHeld=>?_)
   clear hK K
   refine nq 52 ?_
   refine pq 23 53 16777215 HT_ ?_
   refine pq 24 54 33554431 HT_ ?_
   refine pq 25 55 67108863 HT_ ?_
   refine pq 26 56 134217727 HT_ ?_
   refine pq 27 57 268435455 HT_ ?_
   refine pq 28 58 536870911 HT_ ?_
   refine pq 29 59 1073741823 HT_ ?_
   refine pu 30 60 2147483647 HT_ ?_
   refine pu 31 61 4294967295 HT_ ?_
   refine pu 32 62 8589934591 HT_ ?_
   refine pu 33 63 17179869183 HT_ ?_
   refine pu 34 64 34359738367 HT_ ?_
   refine pu 35 65 68719476735 HT_ ?_
   refine pq 36 66 137438953471 HT_ ?_
   refine pq 37 67 274877906943 HT_ ?_
   refine pu 38 68 549755813887 HT_ ?_
   refine pu 39 69 1099511627775 HT_ ?_
   refine pu 40 70 2199023255551 HT_ ?_
   refine pu 41 71 4398046511103 HT_ ?_
   refine pq 42 72 8796093022207 HT_ ?_
   refine done_ (done_of HT_.out (by kernel_rfl)) ?_
   try go_wp2
   go_meet
   case rel=>exact ⟨_,(true),rfl,H',⟨by first | omega | exact Nat.le_refl _⟩,⟨by (with_reducible repeat (first | refine blk_drewN ?_ _ | refine blk_drew ?_ | refine blk_alloc ?_ _));exact BK322.out⟩,⟨by (with_reducible repeat (first | refine blk_drewN ?_ _ | refine blk_drew ?_ | refine blk_alloc ?_ _));exact BK323.out⟩,⟨bl HB⟩⟩
  rw [if_pos c58] at H
  have c58b0:(t338 == 0) = true:=beq_iff_eq.mpr c58
  have c58b1:(t338 != 0) = false:=bne_eq_false_iff_eq.mpr c58
  clear c58
  replace H:=Option.bind_eq_some_iff.mp H
  obtain ⟨⟨t357,t358⟩,A590,H⟩:=H
  dsimp only at H
  have A59:=A_ A590
  clear A590
  replace H:=Option.bind_eq_some_iff.mp H
  obtain ⟨⟨t359,t360⟩,A600,H⟩:=H
  dsimp only at H
  have A60:=A_ A600
  clear A600
  obtain ⟨y361,hy361⟩:∃ y_:List (S23),y_ = (([(⟨t357,t358⟩:S23),(⟨t359,t360⟩:S23)]:List (S23))):=⟨_,rfl⟩
  rw [← hy361] at H
  have Ny361:=A_ hy361
  clear hy361
  replace H:=Option.bind_eq_some_iff.mp H
  obtain ⟨t364,A610,H⟩:=H
  replace H:(if t364 = true then ((numnahlaw07_ints.f k t337 (([1,0]:List Int))).bind fun t368=>(numnahlaw07_awake.j0 k (!t368))) else (numnahlaw07_awake.j0 k true)) = some r:=H
  have A61:=A_ A610
  clear A610
  by_cases c62:t364 = true
  case neg =>
   replace c62:=Bool.eq_false_iff.mpr c62
   subst c62
   have H1:(numnahlaw07_awake.j0 k true) = some r:=by rw [if_neg (show ¬ (false = true) by decide)] at H;exact H
   exact absurd (H1.trans (congrArg some HRT.out)) (j0_no k)
  subst c62
  have H1:((numnahlaw07_ints.f k t337 (([1,0]:List Int))).bind fun t368=>(numnahlaw07_awake.j0 k (!t368))) = some r:=by rw [if_pos rfl] at H;exact H
  clear H
  have H:=H1
  clear H1
  obtain ⟨y365,hy365⟩:∃ y_:List Int,y_ = (([1,0]:List Int)):=⟨_,rfl⟩
  rw [← hy365] at H
  have Ny365:=A_ hy365
  clear hy365
  replace H:=Option.bind_eq_some_iff.mp H
  obtain ⟨t368,A630,H⟩:=H
  replace H:(numnahlaw07_awake.j0 k (!t368)) = some r:=H
  have A63:=A_ A630
  clear A630
  have H':=A_ H
  clear H
  try go_wp2
  replace HO312:=rD HO312
  replace HO316:=rD HO316
  replace HO326:=rD HO326
  replace HO335:=nD HO335
  replace HO340:=rD HO340
  replace HO342:=rD HO342
  replace BK322:=kD BK322
  replace BK323:=kD BK323
  replace HB:=bD HB
  refine st 43 (fun w'=>w'.cell? ⟨gb322,0,none⟩ = some (.int .i64 t317) ∧ w'.cell? ⟨gb322,1,none⟩ = some (.int .i64 t318) ∧ w'.cell? ⟨gb323,0,none⟩ = some (.int .i64 t319) ∧ w'.cell? ⟨gb323,1,none⟩ = some (.int .i64 t320)) [] numnahlaw07_awake.tab4 numnahlaw07_awake.bits4 (fun hHeld HT_ HW_=>?_)
  generalize w27.drew = w64 at HO312 HO316 HO326 HO335 HO340 HO342 BK322 BK323 HB hHeld ⊢
  refine pq 0 30 1 HT_ ?_
  refine pq 1 31 3 HT_ ?_
  refine pq 2 32 7 HT_ ?_
  refine pq 3 33 15 HT_ ?_
  refine oq 4 34 31 HT_ (fun K hK=>?_)
  refine gq Try.func23 #[.int .i64 50] ?_
  with_reducible refine (numnahref07_Whole.calls 50 t343 t344 _ A29.out).mono ?_
  rintro e w65 ⟨rfl,hb⟩
  refine ⟨_,rfl,?_⟩
  replace HO312:=rB HO312 hb
  replace HO316:=rB HO316 hb
  replace HO326:=rB HO326 hb
  replace HO335:=nB HO335 hb
  replace HO340:=rB HO340 hb
  replace HO342:=rB HO342 hb
  replace BK322:=kB BK322 hb
  replace BK323:=kB BK323 hb
  replace HB:=bB HB hb
  (try clear hb)
  refine hz hK (fun hHeld=>?_)
  clear hK K
  refine nq 34 ?_
  refine oq 5 35 63 HT_ (fun K hK=>?_)
  refine gq Try.func23 #[.int .i64 100] ?_
  with_reducible refine (numnahref07_Whole.calls 100 t345 t346 _ A30.out).mono ?_
  rintro e w66 ⟨rfl,hb⟩
  refine ⟨_,rfl,?_⟩
  replace HO312:=rB HO312 hb
  replace HO316:=rB HO316 hb
  replace HO326:=rB HO326 hb
  replace HO335:=nB HO335 hb
  replace HO340:=rB HO340 hb
  replace HO342:=rB HO342 hb
  replace BK322:=kB BK322 hb
  replace BK323:=kB BK323 hb
  replace HB:=bB HB hb
  (try clear hb)
  refine hz hK (fun hHeld=>?_)
  clear hK K
  refine nq 35 ?_
  refine oq 6 36 127 HT_ (fun K hK=>?_)
  refine gq Try.func23 #[.int .i64 150] ?_
  with_reducible refine (numnahref07_Whole.calls 150 t347 t348 _ A31.out).mono ?_
  rintro e w67 ⟨rfl,hb⟩
  refine ⟨_,rfl,?_⟩
  replace HO312:=rB HO312 hb
  replace HO316:=rB HO316 hb
  replace HO326:=rB HO326 hb
  replace HO335:=nB HO335 hb
  replace HO340:=rB HO340 hb
  replace HO342:=rB HO342 hb
  replace BK322:=kB BK322 hb
  replace BK323:=kB BK323 hb
  replace HB:=bB HB hb
  (try clear hb)
  refine hz hK (fun hHeld=>?_)
  clear hK K
  refine nq 36 ?_
  refine oq 7 37 255 HT_ (fun K hK=>?_)
  refine Kd.R_lit_step k23 _ 23 ?hg (N:=37) ?hd (xs:=([(⟨t343,t344⟩:S23),(⟨t345,t346⟩:S23),(⟨t347,t348⟩:S23)]:List (S23))) (inner:=[.int .i64 t343,.int .i64 t344,.int .i64 t345,.int .i64 t346,.int .i64 t347,.int .i64 t348]) (ok:=fun _=>True) (okp:=fun _=>True) ?hr ?hp (fun _ hk=>hk) trivial (Below.refl _ _) (Nat.le_refl _) (by simp) ?_;(case hd=>rfl);(case hg=>rfl);(case hr=>first | (go_simp;done) | (go_simp;rfl));(case hp=>exact (Reps.c2 (show Kd.M k23 _ _ _ (⟨t343,t344⟩:S23) [.int .i64 t343,.int .i64 t344] from (k23_mkM _ _ _ (⟨t343,t344⟩:S23) )) (Reps.c2 (show Kd.M k23 _ _ _ (⟨t345,t346⟩:S23) [.int .i64 t345,.int .i64 t346] from (k23_mkM _ _ _ (⟨t345,t346⟩:S23) )) (Reps.c2 (show Kd.M k23 _ _ _ (⟨t347,t348⟩:S23) [.int .i64 t347,.int .i64 t348] from (k23_mkM _ _ _ (⟨t347,t348⟩:S23) )) (Reps.none _ _)))))
  intro v350 w68 ho69 hb hg_ hnew_
  clear hg_ hnew_
  (first | rw [← Ny349.out] at ho69 | (simp only [Int.reduceToNat] at ho69;rw [← Ny349.out] at ho69))
  have HO351:=A_ (Kd.R_lower (Kd.R_newB (Kd.R_newB (Kd.R_new' (Kd.R_new' ho69 (Kd.R_lt (rs HO316))) (Kd.R_lt (rs HO340))) (g:=gb322) (o:=.cells #[.int .i64 t317,.int .i64 t318] 23 (0,0)) BK322.out) (g:=gb323) (o:=.cells #[.int .i64 t319,.int .i64 t320] 23 (0,0)) BK323.out) (below_size HB.out))
  replace HO312:=rB HO312 hb
  replace HO316:=A_ (Kd.R_elder' (rs HO316) (Kd.R_base ho69) hb)
  replace HO326:=rB HO326 hb
  replace HO335:=A_ (Kd.N_elder' (ns HO335) (Kd.R_base ho69) hb)
  replace HO340:=A_ (Kd.R_elder' (rs HO340) (Kd.R_base ho69) hb)
  replace HO342:=rB HO342 hb
  replace BK322:=kB BK322 hb
  replace BK323:=kB BK323 hb
  replace HB:=bB HB hb
  clear hb ho69
  obtain ⟨Ao70,co70,eo70⟩:=Kd.R_slice HO316.out
  (first | subst eo70 | (injection eo70 with f1_ f2_ f3_;have f4_:=f1_.symm;have f5_:=f3_.symm;clear f1_ f2_ f3_;subst f4_;subst f5_))
  obtain ⟨Ao71,co71,eo71⟩:=Kd.R_slice HO351.out
  (first | subst eo71 | (injection eo71 with f1_ f2_ f3_;have f4_:=f1_.symm;have f5_:=f3_.symm;clear f1_ f2_ f3_;subst f4_;subst f5_))
  refine hz hK (fun hHeld=>?_)
  clear hK K
  refine nq 37 ?_
  refine oq 8 38 511 HT_ (fun K hK=>?_)
  refine gq Try.func33 #[.slice Ao70 t313.length co70,.slice Ao71 y349.length co71] ?_
  with_reducible refine (numnahref07_Same.calls k _ _ t313 _ _ y349 true _ ?side1 ?side2 ?side3 ?side4 A32.out).mono ?_
  (case side1=>repeat (first | exact (Kd.R_reads' HO316.out).2.2 | (with_reducible refine Kd.C_alloc ?_ _) | (with_reducible refine Kd.C_drewN ?_ _) | (with_reducible refine Kd.C_drew ?_)))
  (case side2=>exact (Kd.R_reads' HO316.out).2.1)
  (case side3=>repeat (first | exact (Kd.R_reads' HO351.out).2.2 | (with_reducible refine Kd.C_alloc ?_ _) | (with_reducible refine Kd.C_drewN ?_ _) | (with_reducible refine Kd.C_drew ?_)))
  (case side4=>exact (Kd.R_reads' HO351.out).2.1)
  rintro e w' ⟨rfl,⟨nd,rfl⟩⟩
  refine ⟨_,rfl,?_⟩
  refine hz hK (fun hHeld=>?_)
  clear hK K
  refine nq 38 ?_
  refine pq 9 39 1023 HT_ ?_
  refine pq 10 40 2047 HT_ ?_
  refine pq 11 41 4095 HT_ ?_
  refine pq 12 42 8191 HT_ ?_
  refine pq 13 43 16383 HT_ ?_
  refine pq 14 44 32767 HT_ ?_
  refine pq 15 45 65535 HT_ ?_
  refine tq 16 46 131071 HT_ HW_ hHeld ?_
  refine oq 17 47 262143 HT_ (fun K hK=>?_)
  refine gq Try.func23 #[.int .i64 25] ?_
  with_reducible refine (numnahref07_Whole.calls 25 t353 t354 _ A35.out).mono ?_
  rintro e w72 ⟨rfl,hb⟩
  refine ⟨_,rfl,?_⟩
  replace HO312:=rB HO312 hb
  replace HO316:=rB HO316 hb
  replace HO326:=rB HO326 hb
  replace HO335:=nB HO335 hb
  replace HO340:=rB HO340 hb
  replace HO342:=rB HO342 hb
  replace HO351:=rB HO351 hb
  replace BK322:=kB BK322 hb
  replace BK323:=kB BK323 hb
  replace HB:=bB HB hb
  (try clear hb)
  refine hz hK (fun hHeld=>?_)
  clear hK K
  refine nq 47 ?_
  refine pq 18 48 524287 HT_ ?_
  refine pq 19 49 1048575 HT_ ?_
  refine pq 20 50 2097151 HT_ ?_
  refine tq 21 51 4194303 HT_ HW_ hHeld ?_
  refine oq 22 52 8388607 HT_ (fun K hK=>?_)
  refine gq Try.func23 #[.int .i64 75] ?_
  with_reducible refine (numnahref07_Whole.calls 75 t355 t356 _ A46.out).mono ?_
  rintro e w73 ⟨rfl,hb⟩
  refine ⟨_,rfl,?_⟩
  replace HO312:=rB HO312 hb
  replace HO316:=rB HO316 hb
  replace HO326:=rB HO326 hb
  replace HO335:=nB HO335 hb
  replace HO340:=rB HO340 hb
  replace HO342:=rB HO342 hb
  replace HO351:=rB HO351 hb
  replace BK322:=kB BK322 hb
  replace BK323:=kB BK323 hb
  replace HB:=bB HB hb
  (try clear hb)
  refine hz hK (fun hHeld=>?_)
  clear hK K
  refine nq 52 ?_
  refine pq 23 53 16777215 HT_ ?_
  refine pq 24 54 33554431 HT_ ?_
  refine pq 25 55 67108863 HT_ ?_
  refine pq 26 56 134217727 HT_ ?_
  refine pq 27 57 268435455 HT_ ?_
  refine pq 28 58 536870911 HT_ ?_
  refine pq 29 59 1073741823 HT_ ?_
  refine pq 30 60 2147483647 HT_ ?_
  refine oq 31 61 4294967295 HT_ (fun K hK=>?_)
  refine gq Try.func23 #[.int .i64 4] ?_
  with_reducible refine (numnahref07_Whole.calls 4 t357 t358 _ A59.out).mono ?_
  rintro e w74 ⟨rfl,hb⟩
  refine ⟨_,rfl,?_⟩
  replace HO312:=rB HO312 hb
  replace HO316:=rB HO316 hb
  replace HO326:=rB HO326 hb
  replace HO335:=nB HO335 hb
  replace HO340:=rB HO340 hb
  replace HO342:=rB HO342 hb
  replace HO351:=rB HO351 hb
  replace BK322:=kB BK322 hb
  replace BK323:=kB BK323 hb
  replace HB:=bB HB hb
  (try clear hb)
  refine hz hK (fun hHeld=>?_)
  clear hK K
  refine nq 61 ?_
  refine oq 32 62 8589934591 HT_ (fun K hK=>?_)
  refine gq Try.func23 #[.int .i64 6] ?_
  with_reducible refine (numnahref07_Whole.calls 6 t359 t360 _ A60.out).mono ?_
  rintro e w75 ⟨rfl,hb⟩
  refine ⟨_,rfl,?_⟩
  replace HO312:=rB HO312 hb
  replace HO316:=rB HO316 hb
  replace HO326:=rB HO326 hb
  replace HO335:=nB HO335 hb
  replace HO340:=rB HO340 hb
  replace HO342:=rB HO342 hb
  replace HO351:=rB HO351 hb
  replace BK322:=kB BK322 hb
  replace BK323:=kB BK323 hb
  replace HB:=bB HB hb
  (try clear hb)
  refine hz hK (fun hHeld=>?_)
  clear hK K
  refine nq 62 ?_
  refine oq 33 63 17179869183 HT_ (fun K hK=>?_)
  refine Kd.R_lit_step k23 _ 23 ?hg (N:=63) ?hd (xs:=([(⟨t357,t358⟩:S23),(⟨t359,t360⟩:S23)]:List (S23))) (inner:=[.int .i64 t357,.int .i64 t358,.int .i64 t359,.int .i64 t360]) (ok:=fun _=>True) (okp:=fun _=>True) ?hr ?hp (fun _ hk=>hk) trivial (Below.refl _ _) (Nat.le_refl _) (by simp) ?_;(case hd=>rfl);(case hg=>rfl);(case hr=>first | (go_simp;done) | (go_simp;rfl));(case hp=>exact (Reps.c2 (show Kd.M k23 _ _ _ (⟨t357,t358⟩:S23) [.int .i64 t357,.int .i64 t358] from (k23_mkM _ _ _ (⟨t357,t358⟩:S23) )) (Reps.c2 (show Kd.M k23 _ _ _ (⟨t359,t360⟩:S23) [.int .i64 t359,.int .i64 t360] from (k23_mkM _ _ _ (⟨t359,t360⟩:S23) )) (Reps.none _ _))))
  intro v362 w76 ho77 hb hg_ hnew_
  clear hg_ hnew_
  (first | rw [← Ny361.out] at ho77 | (simp only [Int.reduceToNat] at ho77;rw [← Ny361.out] at ho77))
  have HO363:=A_ (Kd.R_lower (Kd.R_newB (Kd.R_newB (Kd.R_new' (Kd.R_new' (Kd.R_new' ho77 (Kd.R_lt (rs HO316))) (Kd.R_lt (rs HO340))) (Kd.R_lt (rs HO351))) (g:=gb322) (o:=.cells #[.int .i64 t317,.int .i64 t318] 23 (0,0)) BK322.out) (g:=gb323) (o:=.cells #[.int .i64 t319,.int .i64 t320] 23 (0,0)) BK323.out) (below_size HB.out))
  replace HO312:=rB HO312 hb
  replace HO316:=A_ (Kd.R_elder' (rs HO316) (Kd.R_base ho77) hb)
  replace HO326:=rB HO326 hb
  replace HO335:=A_ (Kd.N_elder' (ns HO335) (Kd.R_base ho77) hb)
  replace HO340:=A_ (Kd.R_elder' (rs HO340) (Kd.R_base ho77) hb)
  replace HO342:=rB HO342 hb
  replace HO351:=A_ (Kd.R_elder' (rs HO351) (Kd.R_base ho77) hb)
  replace BK322:=kB BK322 hb
  replace BK323:=kB BK323 hb
  replace HB:=bB HB hb
  clear hb ho77
  obtain ⟨Ao78,co78,eo78⟩:=Kd.R_slice HO340.out
  (first | subst eo78 | (injection eo78 with f1_ f2_ f3_;have f4_:=f1_.symm;have f5_:=f3_.symm;clear f1_ f2_ f3_;subst f4_;subst f5_))
  obtain ⟨Ao79,co79,eo79⟩:=Kd.R_slice HO363.out
  (first | subst eo79 | (injection eo79 with f1_ f2_ f3_;have f4_:=f1_.symm;have f5_:=f3_.symm;clear f1_ f2_ f3_;subst f4_;subst f5_))
  refine hz hK (fun hHeld=>?_)
  clear hK K
  refine nq 63 ?_
  refine oq 34 64 34359738367 HT_ (fun K hK=>?_)
  refine gq Try.func33 #[.slice Ao78 t336.length co78,.slice Ao79 y361.length co79] ?_
  with_reducible refine (numnahref07_Same.calls k _ _ t336 _ _ y361 true _ ?side1 ?side2 ?side3 ?side4 A61.out).mono ?_
  (case side1=>repeat (first | exact (Kd.R_reads' HO340.out).2.2 | (with_reducible refine Kd.C_alloc ?_ _) | (with_reducible refine Kd.C_drewN ?_ _) | (with_reducible refine Kd.C_drew ?_)))
  (case side2=>exact (Kd.R_reads' HO340.out).2.1)
  (case side3=>repeat (first | exact (Kd.R_reads' HO363.out).2.2 | (with_reducible refine Kd.C_alloc ?_ _) | (with_reducible refine Kd.C_drewN ?_ _) | (with_reducible refine Kd.C_drew ?_)))
  (case side4=>exact (Kd.R_reads' HO363.out).2.1)
  rintro e w' ⟨rfl,⟨nd,rfl⟩⟩
  refine ⟨_,rfl,?_⟩
  refine hz hK (fun hHeld=>?_)
  clear hK K
  refine nq 64 ?_
  refine pq 35 65 68719476735 HT_ ?_
  refine pq 36 66 137438953471 HT_ ?_
  refine pq 37 67 274877906943 HT_ ?_
  refine pq 38 68 549755813887 HT_ ?_
  refine oq 39 69 1099511627775 HT_ (fun K hK=>?_)
  refine Kd.R_lit_step (Kd.int .i64) _ 3 ?hg (N:=69) ?hd (xs:=([1,0]:List Int)) (inner:=[.int .i64 1,.int .i64 0]) (ok:=fun _=>True) (okp:=fun _=>True) ?hr ?hp (fun _ hk=>hk) trivial (Below.refl _ _) (Nat.le_refl _) (by simp) ?_;(case hd=>rfl);(case hg=>rfl);(case hr=>first | (go_simp;done) | (go_simp;rfl));(case hp=>exact (Reps.one (show Kd.M (Kd.int .i64) _ _ _ 1 [.int .i64 1] from rfl) (Reps.one (show Kd.M (Kd.int .i64) _ _ _ 0 [.int .i64 0] from rfl) (Reps.none _ _))))
  intro v366 w80 ho81 hb hg_ hnew_
  clear hg_ hnew_
  (first | rw [← Ny365.out] at ho81 | (simp only [Int.reduceToNat] at ho81;rw [← Ny365.out] at ho81))
  have HO367:=A_ (Kd.R_lower (Kd.R_new' (Kd.R_new' (Kd.R_new' ho81 (Kd.R_lt (rs HO312))) (Kd.R_lt (rs HO326))) (Kd.R_lt (rs HO342))) (below_size (bl HB)))
  replace HO312:=A_ (Kd.R_elder' (rs HO312) (Kd.R_base ho81) hb)
  replace HO316:=rB HO316 hb
  replace HO326:=A_ (Kd.R_elder' (rs HO326) (Kd.R_base ho81) hb)
  replace HO335:=A_ (Kd.N_elder' (ns HO335) (Kd.R_base ho81) hb)
  replace HO340:=rB HO340 hb
  replace HO342:=A_ (Kd.R_elder' (rs HO342) (Kd.R_base ho81) hb)
  replace HO351:=rB HO351 hb
  replace HO363:=rB HO363 hb
  replace BK322:=kB BK322 hb
  replace BK323:=kB BK323 hb
  replace HB:=bB HB hb
  clear hb ho81
  obtain ⟨Ao82,co82,eo82⟩:=Kd.R_slice HO342.out
  (first | subst eo82 | (injection eo82 with f1_ f2_ f3_;have f4_:=f1_.symm;have f5_:=f3_.symm;clear f1_ f2_ f3_;subst f4_;subst f5_))
  obtain ⟨Ao83,co83,eo83⟩:=Kd.R_slice HO367.out
  (first | subst eo83 | (injection eo83 with f1_ f2_ f3_;have f4_:=f1_.symm;have f5_:=f3_.symm;clear f1_ f2_ f3_;subst f4_;subst f5_))
  refine hz hK (fun hHeld=>?_)
  clear hK K
  refine nq 69 ?_
  refine oq 40 70 2199023255551 HT_ (fun K hK=>?_)
  refine gq Try.func46 #[.slice Ao82 t337.length co82,.slice Ao83 y365.length co83] ?_
  with_reducible refine (numnahlaw07_ints.calls k _ _ t337 _ _ y365 t368 _ ?side1 ?side2 ?side3 ?side4 A63.out).mono ?_
  (case side1=>repeat (first | exact (Kd.R_reads' HO342.out).2.2 | (with_reducible refine Kd.C_alloc ?_ _) | (with_reducible refine Kd.C_drewN ?_ _) | (with_reducible refine Kd.C_drew ?_)))
  (case side2=>exact (Kd.R_reads' HO342.out).2.1)
  (case side3=>repeat (first | exact (Kd.R_reads' HO367.out).2.2 | (with_reducible refine Kd.C_alloc ?_ _) | (with_reducible refine Kd.C_drewN ?_ _) | (with_reducible refine Kd.C_drew ?_)))
  (case side4=>exact (Kd.R_reads' HO367.out).2.1)
  rintro e w' ⟨rfl,⟨nd,rfl⟩⟩
  refine ⟨_,rfl,?_⟩
  refine hz hK (fun hHeld=>?_)
  clear hK K
  refine nq 70 ?_
  refine pq 41 71 4398046511103 HT_ ?_
  refine pq 42 72 8796093022207 HT_ ?_
  refine done_ (done_of HT_.out (by kernel_rfl)) ?_
  try go_wp2
  go_meet
  case rel=>exact ⟨_,(!t368),rfl,H',⟨by first | omega | exact Nat.le_refl _⟩,⟨by (with_reducible repeat (first | refine blk_drewN ?_ _ | refine blk_drew ?_ | refine blk_alloc ?_ _));exact BK322.out⟩,⟨by (with_reducible repeat (first | refine blk_drewN ?_ _ | refine blk_drew ?_ | refine blk_alloc ?_ _));exact BK323.out⟩,⟨bl HB⟩⟩
 case rest =>
  clear HC4
  obtain ⟨kq,x72_3,rfl,HA,HJ3,BK322,BK323,HB⟩:=hcut
  cases kq with
  | zero=>exact absurd HA.out (by simp [numnahlaw07_awake.j0])
  | succ kj3 =>
   have H:=HA.out
   clear HA
   simp only [numnahlaw07_awake.j0] at H
   by_cases c127:x72_3 = true
   ·subst c127
    have H1:(some false) = some r:=by rw [if_pos rfl] at H;exact H
    clear H
    have H:=H1
    clear H1
    exact absurd ((Option.some.inj H).trans HRT.out) (by decide)
   replace c127:=Bool.eq_false_iff.mpr c127
   subst c127
   have H1:(some true) = some r:=by rw [if_neg (show ¬ (false = true) by decide)] at H;exact H
   clear H
   have H:=H1
   clear H1
   obtain rfl:=Option.some.inj H
   go_wp2
   go_ret
   exact ⟨rfl,bl HB⟩
theorem awake_now:numnahlaw07_awake.f 60 = some true:=by kernel_rfl
theorem numnahlaw07_awake.calls (k:Nat) (r:Bool) (w:World) (h:numnahlaw07_awake.f k = some r):Calls Try.prog 22 #[] w fun e w'=>e = .returned (.bool r) ∧ Below w.heap.size w w':=by
 obtain ⟨K,hK⟩:=Ev.of (fun k=>numnahlaw07_awake.mono k) h
 obtain ⟨K2,hK2⟩:=Ev.of (fun k=>numnahlaw07_awake.mono k) awake_now
 obtain rfl:r = true:=Option.some.inj ((hK (K + K2) (by omega)).symm.trans (hK2 (K + K2) (by omega)))
 exact numnahlaw07_awake.callsT k _ w h rfl
end Go.Proofs.Ytjohcjfmlhihbaa.G
namespace Go.Proofs.Ytjohcjfmlhihbaa.G
open Go.RowKit Go.Proofs.YtjohcjfmlhihbaaW.PrintWords Go.Proofs.YtjohcjfmlhihbaaW.PrintLast Go.Proofs.YtjohcjfmlhihbaaW.PrintMore
set_option maxHeartbeats 8000000
set_option maxRecDepth 100000
attribute [local go_sem] cond_true cond_false fld23_0 fld23_1 fld45_0 fld45_1 fld109_0 fld109_1 fld94_0 fld94_1 max2_int min2_int max_two min_two max_three min_three max_four min_four   -- for this text's walks alone
def shares_isValid.f (k:Nat) (a0_0:Int) (a0_1:Int):Option (Bool):=if a0_1 ≥ 1 then ((shares_gcd.f k (mx a0_0 (wrap64 (-a0_0))) a0_1).bind fun t127=>(some (t127 == 1))) else (some false)
theorem shares_isValid.mono:∀ a0 a1 k,LeO (shares_isValid.f k a0 a1) (shares_isValid.f (k + 1) a0 a1):=by
 intro a0 a1 k
 unfold shares_isValid.f
 repeat' first
   | (with_reducible exact shares_gcd.mono _ _ _)
   | (with_reducible exact LeO.refl _)
   | (with_reducible exact LeO.none _)
   | (with_reducible refine LeO.ite ?_ ?_)
   | (with_reducible refine LeO.bind ?_ (fun _=>?_))
   | exact shares_gcd.mono _ _ _
   | exact LeO.none _
   | refine LeO.ite ?_ ?_
   | refine LeO.bind ?_ (fun _=>?_)
theorem shares_isValid.calls (k:Nat) (a0_0:Int) (a0_1:Int) (r:Bool) (w:World) (h:shares_isValid.f k a0_0 a0_1 = some r) :
  Calls Try.prog 112 #[.agg #[.int .i64 a0_0,.int .i64 a0_1]] w fun e w'=>e = .returned (.bool r) ∧ Below w.heap.size w w':=by
 have hu23:=Try.underlying23
 have HB:=Aside0.mk (Below.refl w.heap.size w)
 have H:(if a0_1 ≥ 1 then ((shares_gcd.f k (mx a0_0 (wrap64 (-a0_0))) a0_1).bind fun t127=>(some (t127 == 1))) else (some false)) = some r:=h
 clear h
 by_cases c2:a0_1 ≥ 1
 case neg =>
  rw [if_neg c2] at H
  have c2b0:decide (1 ≤ a0_1) = false:=decide_eq_false c2
  clear c2
  obtain rfl:=Option.some.inj H
  go_enter Try.func112,Try.ntmps112
  go_wp2_with (first | ((with_reducible refine gate_dst (N:=1) rfl ?_);(try (refine gate_guard (by rfl) ?_;dsimp only));refine box_event ?hg (N:=1) ?hd (cs:=#[.int .i64 a0_0,.int .i64 a0_1]) (t:=23) ?hr ?_;(case hd=>rfl);(case hg=>rfl);(case hr=>first | (go_simp;done) | (go_simp;rfl));intro gb126 hg w7 hbox hb;have n0_:=Aside0.mk (below_step (by repeat (first | (with_reducible first | exact HB.out | apply below_alloc | apply pw_below_drewN | apply below_drew1) | exact HB.out)) hb);have n1_:=Aside0.mk (hbox);have n2_:=Aside0.mk ((by rw [hg];exact (below_size (by repeat (first | (with_reducible first | exact HB.out | apply below_alloc | apply pw_below_drewN | apply below_drew1) | exact HB.out))):w.heap.size ≤ gb126));have n3_:=Aside0.mk ((by rw [hg];exact (below_size (by repeat (first | (with_reducible first | exact HB.out | apply below_alloc | apply pw_below_drewN | apply below_drew1) | exact HB.out))):w.heap.size ≤ gb126));clear HB;have HB:=n0_;have BK126:=n1_;have GW126:=n2_;have GE126:=n3_;clear n0_ n1_ n2_ n3_;clear hb hbox hg;have hcz8_0:w7.cell? ⟨gb126,0,none⟩ = some (.int .i64 a0_0):=(blk_cell BK126.out 0).trans rfl;have hcz8_1:w7.cell? ⟨gb126,1,none⟩ = some (.int .i64 a0_1):=(blk_cell BK126.out 1).trans rfl;have hfz8_0:=blk_frozen BK126.out 0;have hfz8_1:=blk_frozen BK126.out 1))
  go_ret
  exact ⟨by first | rfl | (simp [errW_none,errW_some] <;> rfl) | (simp [*,errW_none,errW_some] <;> rfl),by repeat (first | (with_reducible first | exact HB.out | apply below_alloc | apply pw_below_drewN | apply below_drew1 | refine below_set ?_ GE126.out) | exact HB.out)⟩
 rw [if_pos c2] at H
 have c2b0:decide (1 ≤ a0_1) = true:=decide_eq_true c2
 clear c2
 obtain ⟨ji3,hji3⟩:∃ j_:Int,(mx a0_0 (wrap64 (-a0_0))) = j_:=⟨_,rfl⟩
 replace H:((shares_gcd.f k (ji3) a0_1).bind fun t127=>(some (t127 == 1))) = some r:=by first | (rw [hji3] at H;exact H) | (simp only [hji3] at H ⊢;exact H)
 have hji3_:(if a0_0 < (wrap64 (-a0_0)) then (wrap64 (-a0_0)) else a0_0) = ji3:=hji3
 replace H:=Option.bind_eq_some_iff.mp H
 obtain ⟨t127,A40,H⟩:=H
 replace H:(some (t127 == 1)) = some r:=H
 have A4:=Aside0.mk A40
 clear A40
 obtain rfl:=Option.some.inj H
 go_enter Try.func112,Try.ntmps112
 go_wp2_with (first | ((with_reducible refine gate_dst (N:=1) rfl ?_);(try (refine gate_guard (by rfl) ?_;dsimp only));refine box_event ?hg (N:=1) ?hd (cs:=#[.int .i64 a0_0,.int .i64 a0_1]) (t:=23) ?hr ?_;(case hd=>rfl);(case hg=>rfl);(case hr=>first | (go_simp;done) | (go_simp;rfl));intro gb126 hg w5 hbox hb;have n0_:=Aside0.mk (below_step (by repeat (first | (with_reducible first | exact HB.out | apply below_alloc | apply pw_below_drewN | apply below_drew1) | exact HB.out)) hb);have n1_:=Aside0.mk (hbox);have n2_:=Aside0.mk ((by rw [hg];exact (below_size (by repeat (first | (with_reducible first | exact HB.out | apply below_alloc | apply pw_below_drewN | apply below_drew1) | exact HB.out))):w.heap.size ≤ gb126));have n3_:=Aside0.mk ((by rw [hg];exact (below_size (by repeat (first | (with_reducible first | exact HB.out | apply below_alloc | apply pw_below_drewN | apply below_drew1) | exact HB.out))):w.heap.size ≤ gb126));clear HB;have HB:=n0_;have BK126:=n1_;have GW126:=n2_;have GE126:=n3_;clear n0_ n1_ n2_ n3_;clear hb hbox hg;have hcz6_0:w5.cell? ⟨gb126,0,none⟩ = some (.int .i64 a0_0):=(blk_cell BK126.out 0).trans rfl;have hcz6_1:w5.cell? ⟨gb126,1,none⟩ = some (.int .i64 a0_1):=(blk_cell BK126.out 1).trans rfl;have hfz6_0:=blk_frozen BK126.out 0;have hfz6_1:=blk_frozen BK126.out 1) | (go_at_call 116;(with_reducible refine (shares_gcd.calls k ji3 a0_1 t127 _ A4.out).mono ?_);rintro e w' ⟨rfl,⟨nd,rfl⟩⟩))
 go_ret
 exact ⟨by first | rfl | (simp [errW_none,errW_some] <;> rfl) | (simp only [← hji3];first | rfl | (simp [errW_none,errW_some] <;> rfl)) | (simp [*,errW_none,errW_some] <;> rfl),by repeat (first | (with_reducible first | exact HB.out | apply below_alloc | apply pw_below_drewN | apply below_drew1 | refine below_set ?_ GE126.out) | exact HB.out)⟩
def numnahref07_gcd.l0:Nat → Int → Int → Option (Int)
 | 0,_,_=>none
 | k + 1,x0,x1=>if x1 > 0 then (if x1 = 0 then (none) else (numnahref07_gcd.l0 k x1 (Int.tmod x0 x1))) else (some x0)
def numnahref07_gcd.f (k:Nat) (a0:Int) (a1:Int):Option (Int):=numnahref07_gcd.l0 k a0 a1
theorem numnahref07_gcd.mono_l:∀ k,(∀ y0 y1,LeO (numnahref07_gcd.l0 k y0 y1) (numnahref07_gcd.l0 (k + 1) y0 y1))
 | 0=>fun _ _ r h=>by simp [numnahref07_gcd.l0] at h
 | k + 1=>by
  have ih0:=numnahref07_gcd.mono_l k
  intro y0 y1
  unfold numnahref07_gcd.l0
  repeat' first
  | (with_reducible exact ih0 _ _)
  | (with_reducible exact LeO.refl _)
  | (with_reducible exact LeO.none _)
  | (with_reducible refine LeO.ite ?_ ?_)
  | (with_reducible refine LeO.bind ?_ (fun _=>?_))
  | exact ih0 _ _
  | exact LeO.none _
  | refine LeO.ite ?_ ?_
  | refine LeO.bind ?_ (fun _=>?_)
theorem numnahref07_gcd.mono:∀ a0 a1 k,LeO (numnahref07_gcd.f k a0 a1) (numnahref07_gcd.f (k + 1) a0 a1):=by
 intro a0 a1 k
 have ih0:=numnahref07_gcd.mono_l k
 unfold numnahref07_gcd.f
 repeat' first
   | (with_reducible exact ih0 _ _)
   | (with_reducible exact LeO.refl _)
   | (with_reducible exact LeO.none _)
   | (with_reducible refine LeO.ite ?_ ?_)
   | (with_reducible refine LeO.bind ?_ (fun _=>?_))
   | exact ih0 _ _
   | exact LeO.none _
   | refine LeO.ite ?_ ?_
   | refine LeO.bind ?_ (fun _=>?_)
theorem numnahref07_gcd.calls (k:Nat) (a0:Int) (a1:Int) (r:Int) (w:World) (h:numnahref07_gcd.f k a0 a1 = some r) :
  Calls Try.prog 73 #[.int .i64 a0,.int .i64 a1] w fun e w'=>e = .returned (.int .i64 r) ∧ Drawn0 w w':=by
 have H:(numnahref07_gcd.l0 k a0 a1) = some r:=h
 clear h
 have H':=Aside0.mk H
 clear H
 go_enter Try.func73,Try.ntmps73
 go_wp2
 go_loopg [0,1] k (fun kq v0 v1 w'=>∃ (x0_1:Int) (x1_1:Int),v0 = .int .i64 x0_1 ∧ v1 = .int .i64 x1_1 ∧ Aside0 (numnahref07_gcd.l0 kq x0_1 x1_1 = some r) ∧ Aside0 (kq ≤ k) ∧ Drawn0 w w')
 case atStart=>exact ⟨(a0),(a1),(by first | rfl | (simp;done) | (simp [*];done)),(by first | rfl | (simp;done) | (simp [*];done)),H',⟨Nat.le_refl _⟩,by repeat (first | exact Drawn0.refl _ | apply Drawn0.step)⟩
 case round =>
  clear H'
  try clear p2
  obtain ⟨x0_1,x1_1,rfl,rfl,HA,HK1,⟨m1,rfl⟩⟩:=hrel
  cases gk with
  | zero=>exact absurd HA.out (by simp [numnahref07_gcd.l0])
  | succ k1 =>
   have H:=HA.out
   clear HA
   simp only [numnahref07_gcd.l0] at H
   by_cases c3:x1_1 > 0
   case neg =>
    rw [if_neg c3] at H
    have c3b0:decide (0 < x1_1) = false:=decide_eq_false c3
    clear c3
    obtain rfl:=Option.some.inj H
    go_wp2
    go_ret
    exact ⟨by first | rfl | (simp;done) | (simp [*];done),by repeat (first | exact Drawn0.refl _ | apply Drawn0.step)⟩
   rw [if_pos c3] at H
   have c3b0:decide (0 < x1_1) = true:=decide_eq_true c3
   clear c3
   by_cases c4:x1_1 = 0
   ·rw [if_pos c4] at H
    exact absurd H (by simp)
   rw [if_neg c4] at H
   have c4b0:(x1_1 == 0) = false:=beq_eq_false_iff_ne.mpr c4
   have c4b1:(x1_1 != 0) = true:=bne_iff_ne.mpr c4
   have H':=Aside0.mk H
   clear H
   go_wp2
   go_roundg k1
   case measure=>have:=HK1.out;omega
   case rel=>exact ⟨(x1_1),(Int.tmod x0_1 x1_1),(by first | rfl | (simp;done) | (simp [*];done)),(by first | rfl | (simp;done) | (simp [*];done)),H',⟨by have:=HK1.out;omega⟩,by repeat (first | exact Drawn0.refl _ | apply Drawn0.step)⟩
def numnahref07_Reduced.f (k:Nat) (a0:Int) (a1:Int):Option (Int × Int):=(numnahref07_gcd.f k (mx a0 (wrap64 (-a0))) a1).bind fun t370=>(if t370 = 0 then (none) else (some (wrap64 (Int.tdiv a0 t370),wrap64 (Int.tdiv a1 t370))))
theorem numnahref07_Reduced.mono:∀ a0 a1 k,LeO (numnahref07_Reduced.f k a0 a1) (numnahref07_Reduced.f (k + 1) a0 a1):=by
 intro a0 a1 k
 unfold numnahref07_Reduced.f
 repeat' first
   | (with_reducible exact numnahref07_gcd.mono _ _ _)
   | (with_reducible exact LeO.refl _)
   | (with_reducible exact LeO.none _)
   | (with_reducible refine LeO.ite ?_ ?_)
   | (with_reducible refine LeO.bind ?_ (fun _=>?_))
   | exact numnahref07_gcd.mono _ _ _
   | exact LeO.none _
   | refine LeO.ite ?_ ?_
   | refine LeO.bind ?_ (fun _=>?_)
def numnahref07_Reduced.T2:Bool × List (List Nat × List Nat):=(true,[([],[]),([],[]),([0,1],[0,1]),([],[]),([],[]),([3,4],[3,4]),([2,5],[2,5]),([6,0,1,2,3,4,5,6],[6])])
def numnahref07_Reduced.B2:List Nat:=[0,0,3,0,0,24,63,127]
theorem numnahref07_Reduced.tab2:rtab .any (opsOf Try.f34 2) = numnahref07_Reduced.T2:=by kernel_rfl
theorem numnahref07_Reduced.bits2:waitsOk numnahref07_Reduced.T2.2 numnahref07_Reduced.B2 = true:=by kernel_rfl
theorem numnahref07_Reduced.calls (k:Nat) (a0:Int) (a1:Int) (r1:Int) (r2:Int) (w:World) (h:numnahref07_Reduced.f k a0 a1 = some (r1,r2)) :
  Calls Try.prog 34 #[.int .i64 a0,.int .i64 a1] w fun e w'=>e = .returned (.agg #[.int .i64 r1,.int .i64 r2]) ∧ Below w.heap.size w w':=by
 have hu23:=Try.underlying23
 have HB:=A_ (Below.refl w.heap.size w)
 have H:((numnahref07_gcd.f k (mx a0 (wrap64 (-a0))) a1).bind fun t370=>(if t370 = 0 then (none) else (some (wrap64 (Int.tdiv a0 t370),wrap64 (Int.tdiv a1 t370))))) = some (r1,r2):=h
 clear h
 obtain ⟨ji3,hji3⟩:∃ j_:Int,(mx a0 (wrap64 (-a0))) = j_:=⟨_,rfl⟩
 replace H:((numnahref07_gcd.f k (ji3) a1).bind fun t370=>(if t370 = 0 then (none) else (some (wrap64 (Int.tdiv a0 t370),wrap64 (Int.tdiv a1 t370))))) = some (r1,r2):=by first | (rw [hji3] at H;exact H) | (simp only [hji3] at H ⊢;exact H)
 have hji3_:(if a0 < (wrap64 (-a0)) then (wrap64 (-a0)) else a0) = ji3:=hji3
 replace H:=Option.bind_eq_some_iff.mp H
 obtain ⟨t370,A40,H⟩:=H
 replace H:(if t370 = 0 then (none) else (some (wrap64 (Int.tdiv a0 t370),wrap64 (Int.tdiv a1 t370)))) = some (r1,r2):=H
 have A4:=A_ A40
 clear A40
 by_cases c5:t370 = 0
 ·rw [if_pos c5] at H
  exact absurd H (by simp)
 rw [if_neg c5] at H
 have c5b0:(t370 == 0) = false:=beq_eq_false_iff_ne.mpr c5
 have c5b1:(t370 != 0) = true:=bne_iff_ne.mpr c5
 simp only [Option.some.injEq,Prod.mk.injEq] at H
 obtain ⟨rfl,rfl⟩:=H
 go_enter Try.func34,Try.ntmps34
 try go_wp2_with (first | ((with_reducible refine gate_dst (N:=4) rfl ?_);refine box_event ?hg (N:=4) ?hd (cs:=#[.int .i64 0,.int .i64 0]) (t:=23) ?hr ?_;(case hd=>rfl);(case hg=>rfl);(case hr=>first | (go_simp;done) | (go_simp;rfl));intro gb369 hg w6 hbox hb;have BK369:=A_ hbox;have GW369:=gw hg HB;have GE369:=GW369;replace HB:=bB HB hb;clear hb hbox hg) | ((with_reducible refine gate_callee (f:=73) rfl ?_);refine goesL_ (some 11) rfl rfl Try.func73 (by kernel_rfl) rfl #[.int .i64 ji3,.int .i64 a1] rfl (by (try simp only [List.map_toArray,List.map_cons,List.map_nil]);first | done | (simp only [hji3];rfl) | rfl | (simp only [List.length_drop,List.length_take];rfl)) ?_;(with_reducible refine (numnahref07_gcd.calls k ji3 a1 t370 _ A4.out).mono ?_);rintro e w' ⟨rfl,⟨nd,rfl⟩⟩;refine ⟨_,rfl,?_⟩;(try (rw [drewN_self w6];generalize hq_:World.drewN w6 _ = w6;have n0_:Aside0 (w6.heap[gb369]? = some (.cells #[.int .i64 0,.int .i64 0] 23 (0,0))):=⟨by rw [← hq_];exact (kb BK369)⟩;have n1_:Aside0 (Below w.heap.size w w6):=⟨by rw [← hq_];exact (bl HB)⟩;clear BK369 HB hq_;have BK369:=n0_;have HB:=n1_;clear n0_ n1_))))
 replace BK369:=A_ (blk_drew BK369.out)
 replace HB:=A_ (below_drew1 HB.out)
 refine start_ (n:=8) (S:=fun w'=>True) (ds:=[]) (ba 8 0) (by kernel_rfl) rfl rfl trivial (fun hHeld=>?_);refine with_tabW numnahref07_Reduced.tab2 numnahref07_Reduced.bits2 (fun HT_ HW_=>?_)
 generalize w6.drew = w7 at BK369 HB hHeld ⊢
 refine pq 0 12 1 HT_ ?_
 refine pq 1 13 3 HT_ ?_
 refine pq 2 14 7 HT_ ?_
 refine pq 3 15 15 HT_ ?_
 refine pq 4 16 31 HT_ ?_
 refine pq 5 17 63 HT_ ?_
 refine pq 6 18 127 HT_ ?_
 refine one_ (i:=7) (N:=none) (ba 8 255) rfl rfl (one_of HT_.out (by kernel_rfl)) (by decide) (fun K hK=>?_)
 have hs8:w7.cell? ⟨gb369,0,none⟩ = some (.int .i64 0):=cz BK369 0
 have hfs8:=blk_frozen BK369.out 0
 have hs9:w7.cell? ⟨gb369,1,none⟩ = some (.int .i64 0):=cz BK369 1
 have hfs9:=blk_frozen BK369.out 1
 refine skip_ (w1:=?_) (by rfl) rfl ?_ ?_
 rotate_left
 ·go_simp
  rfl
 refine hK.out _ _ trivial (fun hHeld=>?_)
 clear hK K
 refine done_ (done_of HT_.out (by kernel_rfl)) ?_
 try go_wp2
 refine bodyPost_ret (results_cell_row rfl _ _ gb369 23 #[.int .i64 (wrap64 (Int.tdiv a0 t370)),.int .i64 (wrap64 (Int.tdiv a1 t370))] (0,0) _ rfl (by (with_reducible repeat (first | refine blk_drewN ?_ _ | refine blk_drew ?_ | refine blk_alloc ?_ _));refine blk_put (cs:=#[.int .i64 (wrap64 (Int.tdiv a0 t370)),.int .i64 0]) ?_ 1 _ rfl;(with_reducible repeat (first | refine blk_drewN ?_ _ | refine blk_drew ?_ | refine blk_alloc ?_ _));refine blk_put (cs:=#[.int .i64 0,.int .i64 0]) ?_ 0 _ rfl;(with_reducible repeat (first | refine blk_drewN ?_ _ | refine blk_drew ?_ | refine blk_alloc ?_ _));exact BK369.out) Try.underlying23 rfl (by kernel_rfl)) rfl ?_
 exact ⟨by first | rfl | (simp [errW_none,errW_some] <;> rfl) | (simp only [← hji3];first | rfl | (simp [errW_none,errW_some] <;> rfl)) | (simp [*,errW_none,errW_some] <;> rfl),by repeat (first | (with_reducible first | exact HB.out | apply below_alloc | apply pw_below_drewN | apply below_drew1 | refine below_set ?_ GE369.out) | exact HB.out)⟩
def numnahref07_Add.f (k:Nat) (a0_0:Int) (a0_1:Int) (a1_0:Int) (a1_1:Int):Option (Int × Int):=(numnahref07_Reduced.f k (wrap64 ((wrap64 (a0_0 * a1_1)) + (wrap64 (a1_0 * a0_1)))) (wrap64 (a0_1 * a1_1))).bind fun bt374=>(some (bt374.1,bt374.2))
theorem numnahref07_Add.mono:∀ a0 a1 a2 a3 k,LeO (numnahref07_Add.f k a0 a1 a2 a3) (numnahref07_Add.f (k + 1) a0 a1 a2 a3):=by
 intro a0 a1 a2 a3 k
 unfold numnahref07_Add.f
 repeat' first
   | (with_reducible exact numnahref07_Reduced.mono _ _ _)
   | (with_reducible exact LeO.refl _)
   | (with_reducible exact LeO.none _)
   | (with_reducible refine LeO.ite ?_ ?_)
   | (with_reducible refine LeO.bind ?_ (fun _=>?_))
   | exact numnahref07_Reduced.mono _ _ _
   | exact LeO.none _
   | refine LeO.ite ?_ ?_
   | refine LeO.bind ?_ (fun _=>?_)
theorem numnahref07_Add.calls (k:Nat) (a0_0:Int) (a0_1:Int) (a1_0:Int) (a1_1:Int) (r1:Int) (r2:Int) (w:World) (h:numnahref07_Add.f k a0_0 a0_1 a1_0 a1_1 = some (r1,r2)) :
  Calls Try.prog 28 #[.agg #[.int .i64 a0_0,.int .i64 a0_1],.agg #[.int .i64 a1_0,.int .i64 a1_1]] w fun e w'=>e = .returned (.agg #[.int .i64 r1,.int .i64 r2]) ∧ Below w.heap.size w w':=by
 have hu23:=Try.underlying23
 have HB:=A_ (Below.refl w.heap.size w)
 have H:((numnahref07_Reduced.f k (wrap64 ((wrap64 (a0_0 * a1_1)) + (wrap64 (a1_0 * a0_1)))) (wrap64 (a0_1 * a1_1))).bind fun bt374=>(some (bt374.1,bt374.2))) = some (r1,r2):=h
 clear h
 replace H:=Option.bind_eq_some_iff.mp H
 obtain ⟨⟨t374,t375⟩,A30,H⟩:=H
 replace H:(some (t374,t375)) = some (r1,r2):=H
 have A3:=A_ A30
 clear A30
 simp only [Option.some.injEq,Prod.mk.injEq] at H
 obtain ⟨rfl,rfl⟩:=H
 go_enter Try.func28,Try.ntmps28
 go_wp2_with (first | ((with_reducible refine gate_dst (N:=2) rfl ?_);refine box_event ?hg (N:=2) ?hd (cs:=#[.int .i64 a0_0,.int .i64 a0_1]) (t:=23) ?hr ?_;(case hd=>rfl);(case hg=>rfl);(case hr=>first | (go_simp;done) | (go_simp;rfl));intro gb371 hg w4 hbox hb;have BK371:=A_ hbox;have GW371:=gw hg HB;have GE371:=GW371;replace HB:=bB HB hb;clear hb hbox hg) | ((with_reducible refine gate_dst (N:=3) rfl ?_);refine box_event ?hg (N:=3) ?hd (cs:=#[.int .i64 a1_0,.int .i64 a1_1]) (t:=23) ?hr ?_;(case hd=>rfl);(case hg=>rfl);(case hr=>first | (go_simp;done) | (go_simp;rfl));intro gb372 hg w5 hbox hb;have BK372:=A_ hbox;have GW372:=gw hg HB;have GE372:=GW372;have NB371_372:=nl hg BK371;have NB372_371:=ng hg BK371;replace BK371:=kB BK371 hb;replace HB:=bB HB hb;clear hb hbox hg) | ((with_reducible refine gate_dst (N:=4) rfl ?_);refine box_event ?hg (N:=4) ?hd (cs:=#[.int .i64 0,.int .i64 0]) (t:=23) ?hr ?_;(case hd=>rfl);(case hg=>rfl);(case hr=>first | (go_simp;done) | (go_simp;rfl));intro gb373 hg w6 hbox hb;have BK373:=A_ hbox;have GW373:=gw hg HB;have GE373:=GW373;have NB371_373:=nl hg BK371;have NB373_371:=ng hg BK371;have NB372_373:=nl hg BK372;have NB373_372:=ng hg BK372;replace BK371:=kB BK371 hb;replace BK372:=kB BK372 hb;replace HB:=bB HB hb;clear hb hbox hg;have hnb7:=NB371_372.out;have hnc7:=NB372_371.out;have hnb8:=NB371_373.out;have hnc8:=NB373_371.out;have hcz9_0:w6.cell? ⟨gb371,0,none⟩ = some (.int .i64 a0_0):=cz BK371 0;have hcz9_1:w6.cell? ⟨gb371,1,none⟩ = some (.int .i64 a0_1):=cz BK371 1;have hfz9_0:=blk_frozen BK371.out 0;have hfz9_1:=blk_frozen BK371.out 1;have hnb10:=NB372_373.out;have hnc10:=NB373_372.out;have hcz11_0:w6.cell? ⟨gb372,0,none⟩ = some (.int .i64 a1_0):=cz BK372 0;have hcz11_1:w6.cell? ⟨gb372,1,none⟩ = some (.int .i64 a1_1):=cz BK372 1;have hfz11_0:=blk_frozen BK372.out 0;have hfz11_1:=blk_frozen BK372.out 1) | ((with_reducible refine gate_callee (f:=34) rfl ?_);refine goesL_ (some 21) rfl rfl Try.func34 (by kernel_rfl) rfl #[.int .i64 (wrap64 ((wrap64 (a0_0 * a1_1)) + (wrap64 (a1_0 * a0_1)))),.int .i64 (wrap64 (a0_1 * a1_1))] rfl (by (try simp only [List.map_toArray,List.map_cons,List.map_nil]);first | done | rfl | (simp only [List.length_drop,List.length_take];rfl)) ?_;(with_reducible refine (numnahref07_Reduced.calls k (wrap64 ((wrap64 (a0_0 * a1_1)) + (wrap64 (a1_0 * a0_1)))) (wrap64 (a0_1 * a1_1)) t374 t375 _ A3.out).mono ?_);rintro e w12 ⟨rfl,hb⟩;refine ⟨_,rfl,?_⟩;replace BK371:=kB BK371 hb;replace BK372:=kB BK372 hb;replace BK373:=kB BK373 hb;replace HB:=bB HB hb;(try clear hb);have hcz13_0:w12.cell? ⟨gb373,0,none⟩ = some (.int .i64 0):=cz BK373 0;have hcz13_1:w12.cell? ⟨gb373,1,none⟩ = some (.int .i64 0):=cz BK373 1;have hfz13_0:=blk_frozen BK373.out 0;have hfz13_1:=blk_frozen BK373.out 1))
 refine bodyPost_ret (results_cell_row rfl _ _ gb373 23 #[.int .i64 t374,.int .i64 t375] (0,0) _ rfl (by (with_reducible repeat (first | refine blk_drewN ?_ _ | refine blk_drew ?_ | refine blk_alloc ?_ _));refine blk_put (cs:=#[.int .i64 t374,.int .i64 0]) ?_ 1 _ rfl;(with_reducible repeat (first | refine blk_drewN ?_ _ | refine blk_drew ?_ | refine blk_alloc ?_ _));refine blk_put (cs:=#[.int .i64 0,.int .i64 0]) ?_ 0 _ rfl;(with_reducible repeat (first | refine blk_drewN ?_ _ | refine blk_drew ?_ | refine blk_alloc ?_ _));exact BK373.out) Try.underlying23 rfl (by kernel_rfl)) rfl ?_
 exact ⟨by first | rfl | (simp [errW_none,errW_some] <;> rfl) | (simp [*,errW_none,errW_some] <;> rfl),by repeat (first | (with_reducible first | exact HB.out | apply below_alloc | apply pw_below_drewN | apply below_drew1 | refine below_set ?_ GE371.out | refine below_set ?_ GE372.out | refine below_set ?_ GE373.out) | exact HB.out)⟩
def numnahref07_Less.f (a0_0:Int) (a0_1:Int) (a1_0:Int) (a1_1:Int):Option (Bool):=some (decide ((wrap64 (a0_0 * a1_1)) < (wrap64 (a1_0 * a0_1))))
theorem numnahref07_Less.calls (a0_0:Int) (a0_1:Int) (a1_0:Int) (a1_1:Int) (r:Bool) (w:World) (h:numnahref07_Less.f a0_0 a0_1 a1_0 a1_1 = some r) :
  Calls Try.prog 30 #[.agg #[.int .i64 a0_0,.int .i64 a0_1],.agg #[.int .i64 a1_0,.int .i64 a1_1]] w fun e w'=>e = .returned (.bool r) ∧ Below w.heap.size w w':=by
 have hu23:=Try.underlying23
 have HB:=A_ (Below.refl w.heap.size w)
 have H:(some (decide ((wrap64 (a0_0 * a1_1)) < (wrap64 (a1_0 * a0_1))))) = some r:=h
 clear h
 obtain rfl:=Option.some.inj H
 go_enter Try.func30,Try.ntmps30
 go_wp2_with (first | ((with_reducible refine gate_dst (N:=2) rfl ?_);refine box_event ?hg (N:=2) ?hd (cs:=#[.int .i64 a0_0,.int .i64 a0_1]) (t:=23) ?hr ?_;(case hd=>rfl);(case hg=>rfl);(case hr=>first | (go_simp;done) | (go_simp;rfl));intro gb381 hg w3 hbox hb;have BK381:=A_ hbox;have GW381:=gw hg HB;have GE381:=GW381;replace HB:=bB HB hb;clear hb hbox hg) | ((with_reducible refine gate_dst (N:=3) rfl ?_);refine box_event ?hg (N:=3) ?hd (cs:=#[.int .i64 a1_0,.int .i64 a1_1]) (t:=23) ?hr ?_;(case hd=>rfl);(case hg=>rfl);(case hr=>first | (go_simp;done) | (go_simp;rfl));intro gb382 hg w4 hbox hb;have BK382:=A_ hbox;have GW382:=gw hg HB;have GE382:=GW382;have NB381_382:=nl hg BK381;have NB382_381:=ng hg BK381;replace BK381:=kB BK381 hb;replace HB:=bB HB hb;clear hb hbox hg;have hnb5:=NB381_382.out;have hnc5:=NB382_381.out;have hcz6_0:w4.cell? ⟨gb381,0,none⟩ = some (.int .i64 a0_0):=cz BK381 0;have hcz6_1:w4.cell? ⟨gb381,1,none⟩ = some (.int .i64 a0_1):=cz BK381 1;have hfz6_0:=blk_frozen BK381.out 0;have hfz6_1:=blk_frozen BK381.out 1;have hcz7_0:w4.cell? ⟨gb382,0,none⟩ = some (.int .i64 a1_0):=cz BK382 0;have hcz7_1:w4.cell? ⟨gb382,1,none⟩ = some (.int .i64 a1_1):=cz BK382 1;have hfz7_0:=blk_frozen BK382.out 0;have hfz7_1:=blk_frozen BK382.out 1))
 go_ret
 exact ⟨by first | rfl | (simp [errW_none,errW_some] <;> rfl) | (simp [*,errW_none,errW_some] <;> rfl),by repeat (first | (with_reducible first | exact HB.out | apply below_alloc | apply pw_below_drewN | apply below_drew1 | refine below_set ?_ GE381.out | refine below_set ?_ GE382.out) | exact HB.out)⟩
def numnahref07_Sub.f (k:Nat) (a0_0:Int) (a0_1:Int) (a1_0:Int) (a1_1:Int):Option (Int × Int):=(numnahref07_Reduced.f k (wrap64 ((wrap64 (a0_0 * a1_1)) - (wrap64 (a1_0 * a0_1)))) (wrap64 (a0_1 * a1_1))).bind fun bt379=>(some (bt379.1,bt379.2))
theorem numnahref07_Sub.mono:∀ a0 a1 a2 a3 k,LeO (numnahref07_Sub.f k a0 a1 a2 a3) (numnahref07_Sub.f (k + 1) a0 a1 a2 a3):=by
 intro a0 a1 a2 a3 k
 unfold numnahref07_Sub.f
 repeat' first
   | (with_reducible exact numnahref07_Reduced.mono _ _ _)
   | (with_reducible exact LeO.refl _)
   | (with_reducible exact LeO.none _)
   | (with_reducible refine LeO.ite ?_ ?_)
   | (with_reducible refine LeO.bind ?_ (fun _=>?_))
   | exact numnahref07_Reduced.mono _ _ _
   | exact LeO.none _
   | refine LeO.ite ?_ ?_
   | refine LeO.bind ?_ (fun _=>?_)
theorem numnahref07_Sub.calls (k:Nat) (a0_0:Int) (a0_1:Int) (a1_0:Int) (a1_1:Int) (r1:Int) (r2:Int) (w:World) (h:numnahref07_Sub.f k a0_0 a0_1 a1_0 a1_1 = some (r1,r2)) :
  Calls Try.prog 31 #[.agg #[.int .i64 a0_0,.int .i64 a0_1],.agg #[.int .i64 a1_0,.int .i64 a1_1]] w fun e w'=>e = .returned (.agg #[.int .i64 r1,.int .i64 r2]) ∧ Below w.heap.size w w':=by
 have hu23:=Try.underlying23
 have HB:=A_ (Below.refl w.heap.size w)
 have H:((numnahref07_Reduced.f k (wrap64 ((wrap64 (a0_0 * a1_1)) - (wrap64 (a1_0 * a0_1)))) (wrap64 (a0_1 * a1_1))).bind fun bt379=>(some (bt379.1,bt379.2))) = some (r1,r2):=h
 clear h
 replace H:=Option.bind_eq_some_iff.mp H
 obtain ⟨⟨t379,t380⟩,A30,H⟩:=H
 replace H:(some (t379,t380)) = some (r1,r2):=H
 have A3:=A_ A30
 clear A30
 simp only [Option.some.injEq,Prod.mk.injEq] at H
 obtain ⟨rfl,rfl⟩:=H
 go_enter Try.func31,Try.ntmps31
 go_wp2_with (first | ((with_reducible refine gate_dst (N:=2) rfl ?_);refine box_event ?hg (N:=2) ?hd (cs:=#[.int .i64 a0_0,.int .i64 a0_1]) (t:=23) ?hr ?_;(case hd=>rfl);(case hg=>rfl);(case hr=>first | (go_simp;done) | (go_simp;rfl));intro gb376 hg w4 hbox hb;have BK376:=A_ hbox;have GW376:=gw hg HB;have GE376:=GW376;replace HB:=bB HB hb;clear hb hbox hg) | ((with_reducible refine gate_dst (N:=3) rfl ?_);refine box_event ?hg (N:=3) ?hd (cs:=#[.int .i64 a1_0,.int .i64 a1_1]) (t:=23) ?hr ?_;(case hd=>rfl);(case hg=>rfl);(case hr=>first | (go_simp;done) | (go_simp;rfl));intro gb377 hg w5 hbox hb;have BK377:=A_ hbox;have GW377:=gw hg HB;have GE377:=GW377;have NB376_377:=nl hg BK376;have NB377_376:=ng hg BK376;replace BK376:=kB BK376 hb;replace HB:=bB HB hb;clear hb hbox hg) | ((with_reducible refine gate_dst (N:=4) rfl ?_);refine box_event ?hg (N:=4) ?hd (cs:=#[.int .i64 0,.int .i64 0]) (t:=23) ?hr ?_;(case hd=>rfl);(case hg=>rfl);(case hr=>first | (go_simp;done) | (go_simp;rfl));intro gb378 hg w6 hbox hb;have BK378:=A_ hbox;have GW378:=gw hg HB;have GE378:=GW378;have NB376_378:=nl hg BK376;have NB378_376:=ng hg BK376;have NB377_378:=nl hg BK377;have NB378_377:=ng hg BK377;replace BK376:=kB BK376 hb;replace BK377:=kB BK377 hb;replace HB:=bB HB hb;clear hb hbox hg;have hnb7:=NB376_377.out;have hnc7:=NB377_376.out;have hnb8:=NB376_378.out;have hnc8:=NB378_376.out;have hcz9_0:w6.cell? ⟨gb376,0,none⟩ = some (.int .i64 a0_0):=cz BK376 0;have hcz9_1:w6.cell? ⟨gb376,1,none⟩ = some (.int .i64 a0_1):=cz BK376 1;have hfz9_0:=blk_frozen BK376.out 0;have hfz9_1:=blk_frozen BK376.out 1;have hnb10:=NB377_378.out;have hnc10:=NB378_377.out;have hcz11_0:w6.cell? ⟨gb377,0,none⟩ = some (.int .i64 a1_0):=cz BK377 0;have hcz11_1:w6.cell? ⟨gb377,1,none⟩ = some (.int .i64 a1_1):=cz BK377 1;have hfz11_0:=blk_frozen BK377.out 0;have hfz11_1:=blk_frozen BK377.out 1) | ((with_reducible refine gate_callee (f:=34) rfl ?_);refine goesL_ (some 21) rfl rfl Try.func34 (by kernel_rfl) rfl #[.int .i64 (wrap64 ((wrap64 (a0_0 * a1_1)) - (wrap64 (a1_0 * a0_1)))),.int .i64 (wrap64 (a0_1 * a1_1))] rfl (by (try simp only [List.map_toArray,List.map_cons,List.map_nil]);first | done | rfl | (simp only [List.length_drop,List.length_take];rfl)) ?_;(with_reducible refine (numnahref07_Reduced.calls k (wrap64 ((wrap64 (a0_0 * a1_1)) - (wrap64 (a1_0 * a0_1)))) (wrap64 (a0_1 * a1_1)) t379 t380 _ A3.out).mono ?_);rintro e w12 ⟨rfl,hb⟩;refine ⟨_,rfl,?_⟩;replace BK376:=kB BK376 hb;replace BK377:=kB BK377 hb;replace BK378:=kB BK378 hb;replace HB:=bB HB hb;(try clear hb);have hcz13_0:w12.cell? ⟨gb378,0,none⟩ = some (.int .i64 0):=cz BK378 0;have hcz13_1:w12.cell? ⟨gb378,1,none⟩ = some (.int .i64 0):=cz BK378 1;have hfz13_0:=blk_frozen BK378.out 0;have hfz13_1:=blk_frozen BK378.out 1))
 refine bodyPost_ret (results_cell_row rfl _ _ gb378 23 #[.int .i64 t379,.int .i64 t380] (0,0) _ rfl (by (with_reducible repeat (first | refine blk_drewN ?_ _ | refine blk_drew ?_ | refine blk_alloc ?_ _));refine blk_put (cs:=#[.int .i64 t379,.int .i64 0]) ?_ 1 _ rfl;(with_reducible repeat (first | refine blk_drewN ?_ _ | refine blk_drew ?_ | refine blk_alloc ?_ _));refine blk_put (cs:=#[.int .i64 0,.int .i64 0]) ?_ 0 _ rfl;(with_reducible repeat (first | refine blk_drewN ?_ _ | refine blk_drew ?_ | refine blk_alloc ?_ _));exact BK378.out) Try.underlying23 rfl (by kernel_rfl)) rfl ?_
 exact ⟨by first | rfl | (simp [errW_none,errW_some] <;> rfl) | (simp [*,errW_none,errW_some] <;> rfl),by repeat (first | (with_reducible first | exact HB.out | apply below_alloc | apply pw_below_drewN | apply below_drew1 | refine below_set ?_ GE376.out | refine below_set ?_ GE377.out | refine below_set ?_ GE378.out) | exact HB.out)⟩
def numnahref07_Half.f (k:Nat) (a0_0:Int) (a0_1:Int):Option (Int × Int):=(numnahref07_Reduced.f k a0_0 (wrap64 (2 * a0_1))).bind fun bt396=>(some (bt396.1,bt396.2))
theorem numnahref07_Half.mono:∀ a0 a1 k,LeO (numnahref07_Half.f k a0 a1) (numnahref07_Half.f (k + 1) a0 a1):=by
 intro a0 a1 k
 unfold numnahref07_Half.f
 repeat' first
   | (with_reducible exact numnahref07_Reduced.mono _ _ _)
   | (with_reducible exact LeO.refl _)
   | (with_reducible exact LeO.none _)
   | (with_reducible refine LeO.ite ?_ ?_)
   | (with_reducible refine LeO.bind ?_ (fun _=>?_))
   | exact numnahref07_Reduced.mono _ _ _
   | exact LeO.none _
   | refine LeO.ite ?_ ?_
   | refine LeO.bind ?_ (fun _=>?_)
theorem numnahref07_Half.calls (k:Nat) (a0_0:Int) (a0_1:Int) (r1:Int) (r2:Int) (w:World) (h:numnahref07_Half.f k a0_0 a0_1 = some (r1,r2)) :
  Calls Try.prog 67 #[.agg #[.int .i64 a0_0,.int .i64 a0_1]] w fun e w'=>e = .returned (.agg #[.int .i64 r1,.int .i64 r2]) ∧ Below w.heap.size w w':=by
 have hu23:=Try.underlying23
 have HB:=Aside0.mk (Below.refl w.heap.size w)
 have H:((numnahref07_Reduced.f k a0_0 (wrap64 (2 * a0_1))).bind fun bt396=>(some (bt396.1,bt396.2))) = some (r1,r2):=h
 clear h
 replace H:=Option.bind_eq_some_iff.mp H
 obtain ⟨⟨t396,t397⟩,A20,H⟩:=H
 replace H:(some (t396,t397)) = some (r1,r2):=H
 have A2:=Aside0.mk A20
 clear A20
 simp only [Option.some.injEq,Prod.mk.injEq] at H
 obtain ⟨rfl,rfl⟩:=H
 go_enter Try.func67,Try.ntmps67
 go_wp2_with (first | ((with_reducible refine gate_dst (N:=1) rfl ?_);refine box_event ?hg (N:=1) ?hd (cs:=#[.int .i64 a0_0,.int .i64 a0_1]) (t:=23) ?hr ?_;(case hd=>rfl);(case hg=>rfl);(case hr=>first | (go_simp;done) | (go_simp;rfl));intro gb394 hg w3 hbox hb;have n0_:=Aside0.mk (below_step (by repeat (first | (with_reducible first | exact HB.out | apply below_alloc | apply pw_below_drewN | apply below_drew1) | exact HB.out)) hb);have n1_:=Aside0.mk (hbox);have n2_:=Aside0.mk ((by rw [hg];exact (below_size (by repeat (first | (with_reducible first | exact HB.out | apply below_alloc | apply pw_below_drewN | apply below_drew1) | exact HB.out))):w.heap.size ≤ gb394));have n3_:=Aside0.mk ((by rw [hg];exact (below_size (by repeat (first | (with_reducible first | exact HB.out | apply below_alloc | apply pw_below_drewN | apply below_drew1) | exact HB.out))):w.heap.size ≤ gb394));clear HB;have HB:=n0_;have BK394:=n1_;have GW394:=n2_;have GE394:=n3_;clear n0_ n1_ n2_ n3_;clear hb hbox hg) | ((with_reducible refine gate_dst (N:=2) rfl ?_);refine box_event ?hg (N:=2) ?hd (cs:=#[.int .i64 0,.int .i64 0]) (t:=23) ?hr ?_;(case hd=>rfl);(case hg=>rfl);(case hr=>first | (go_simp;done) | (go_simp;rfl));intro gb395 hg w4 hbox hb;have n0_:=Aside0.mk (blk_below (g:=gb394) (o:=.cells #[.int .i64 a0_0,.int .i64 a0_1] 23 (0,0)) (by (with_reducible repeat (first | refine blk_drewN ?_ _ | refine blk_drew ?_ | refine blk_alloc ?_ _));exact BK394.out) hb);have n1_:=Aside0.mk (below_step (by repeat (first | (with_reducible first | exact HB.out | apply below_alloc | apply pw_below_drewN | apply below_drew1 | refine below_set ?_ GE394.out) | exact HB.out)) hb);have n2_:=Aside0.mk (hbox);have n3_:=Aside0.mk ((by rw [hg];exact (below_size (by repeat (first | (with_reducible first | exact HB.out | apply below_alloc | apply pw_below_drewN | apply below_drew1 | refine below_set ?_ GE394.out) | exact HB.out))):w.heap.size ≤ gb395));have n4_:=Aside0.mk ((by rw [hg];exact (below_size (by repeat (first | (with_reducible first | exact HB.out | apply below_alloc | apply pw_below_drewN | apply below_drew1 | refine below_set ?_ GE394.out) | exact HB.out))):w.heap.size ≤ gb395));have n5_:=Aside0.mk ((by rw [hg];exact Nat.ne_of_lt (blk_lt (g:=gb394) (o:=.cells #[.int .i64 a0_0,.int .i64 a0_1] 23 (0,0)) (by (with_reducible repeat (first | refine blk_drewN ?_ _ | refine blk_drew ?_ | refine blk_alloc ?_ _));exact BK394.out)):gb394 ≠ gb395));have n6_:=Aside0.mk ((by rw [hg];exact Nat.ne_of_gt (blk_lt (g:=gb394) (o:=.cells #[.int .i64 a0_0,.int .i64 a0_1] 23 (0,0)) (by (with_reducible repeat (first | refine blk_drewN ?_ _ | refine blk_drew ?_ | refine blk_alloc ?_ _));exact BK394.out)):gb395 ≠ gb394));clear BK394;clear HB;have BK394:=n0_;have HB:=n1_;have BK395:=n2_;have GW395:=n3_;have GE395:=n4_;have NB394_395:=n5_;have NB395_394:=n6_;clear n0_ n1_ n2_ n3_ n4_ n5_ n6_;clear hb hbox hg;have hnb5:=NB394_395.out;have hnc5:=NB395_394.out;have hcz6_0:w4.cell? ⟨gb394,0,none⟩ = some (.int .i64 a0_0):=(blk_cell BK394.out 0).trans rfl;have hcz6_1:w4.cell? ⟨gb394,1,none⟩ = some (.int .i64 a0_1):=(blk_cell BK394.out 1).trans rfl;have hfz6_0:=blk_frozen BK394.out 0;have hfz6_1:=blk_frozen BK394.out 1) | ((with_reducible refine gate_callee (f:=34) rfl ?_);refine goesL_ (some 8) rfl rfl Try.func34 (by kernel_rfl) rfl #[.int .i64 a0_0,.int .i64 (wrap64 (2 * a0_1))] rfl (by (try simp only [List.map_toArray,List.map_cons,List.map_nil]);first | done | rfl | (simp only [List.length_drop,List.length_take];rfl)) ?_;(with_reducible refine (numnahref07_Reduced.calls k a0_0 (wrap64 (2 * a0_1)) t396 t397 _ A2.out).mono ?_);rintro e w7 ⟨rfl,hb⟩;refine ⟨_,rfl,?_⟩;have n0_:=Aside0.mk (blk_below (g:=gb394) (o:=.cells #[.int .i64 a0_0,.int .i64 a0_1] 23 (0,0)) (by (with_reducible repeat (first | refine blk_drewN ?_ _ | refine blk_drew ?_ | refine blk_alloc ?_ _));exact BK394.out) hb);have n1_:=Aside0.mk (blk_below (g:=gb395) (o:=.cells #[.int .i64 0,.int .i64 0] 23 (0,0)) (by (with_reducible repeat (first | refine blk_drewN ?_ _ | refine blk_drew ?_ | refine blk_alloc ?_ _));exact BK395.out) hb);have n2_:=Aside0.mk (below_step (by repeat (first | (with_reducible first | exact HB.out | apply below_alloc | apply pw_below_drewN | apply below_drew1 | refine below_set ?_ GE394.out | refine below_set ?_ GE395.out) | exact HB.out)) hb);clear BK394;clear BK395;clear HB;have BK394:=n0_;have BK395:=n1_;have HB:=n2_;clear n0_ n1_ n2_;(try clear hb);have hcz8_0:w7.cell? ⟨gb395,0,none⟩ = some (.int .i64 0):=(blk_cell BK395.out 0).trans rfl;have hcz8_1:w7.cell? ⟨gb395,1,none⟩ = some (.int .i64 0):=(blk_cell BK395.out 1).trans rfl;have hfz8_0:=blk_frozen BK395.out 0;have hfz8_1:=blk_frozen BK395.out 1))
 refine bodyPost_ret (results_cell_row rfl _ _ gb395 23 #[.int .i64 t396,.int .i64 t397] (0,0) _ rfl (by (with_reducible repeat (first | refine blk_drewN ?_ _ | refine blk_drew ?_ | refine blk_alloc ?_ _));refine blk_put (cs:=#[.int .i64 t396,.int .i64 0]) ?_ 1 _ rfl;(with_reducible repeat (first | refine blk_drewN ?_ _ | refine blk_drew ?_ | refine blk_alloc ?_ _));refine blk_put (cs:=#[.int .i64 0,.int .i64 0]) ?_ 0 _ rfl;(with_reducible repeat (first | refine blk_drewN ?_ _ | refine blk_drew ?_ | refine blk_alloc ?_ _));exact BK395.out) Try.underlying23 rfl (by kernel_rfl)) rfl ?_
 exact ⟨by first | rfl | (simp [errW_none,errW_some] <;> rfl) | (simp [*,errW_none,errW_some] <;> rfl),by repeat (first | (with_reducible first | exact HB.out | apply below_alloc | apply pw_below_drewN | apply below_drew1 | refine below_set ?_ GE394.out | refine below_set ?_ GE395.out) | exact HB.out)⟩
def numnahref07_Within.f (k:Nat) (a0_0:Int) (a0_1:Int) (a1:Int) (a2:Int) (a3:Int):Option (Bool):=if a0_1 ≥ 1 then (if a0_1 ≤ a3 then (if a0_0 ≥ a1 then (if a0_0 ≤ a2 then ((numnahref07_gcd.f k (mx a0_0 (wrap64 (-a0_0))) a0_1).bind fun t452=>(some (t452 == 1))) else (some false)) else (some false)) else (some false)) else (some false)
theorem numnahref07_Within.mono:∀ a0 a1 a2 a3 a4 k,LeO (numnahref07_Within.f k a0 a1 a2 a3 a4) (numnahref07_Within.f (k + 1) a0 a1 a2 a3 a4):=by
 intro a0 a1 a2 a3 a4 k
 unfold numnahref07_Within.f
 repeat' first
   | (with_reducible exact numnahref07_gcd.mono _ _ _)
   | (with_reducible exact LeO.refl _)
   | (with_reducible exact LeO.none _)
   | (with_reducible refine LeO.ite ?_ ?_)
   | (with_reducible refine LeO.bind ?_ (fun _=>?_))
   | exact numnahref07_gcd.mono _ _ _
   | exact LeO.none _
   | refine LeO.ite ?_ ?_
   | refine LeO.bind ?_ (fun _=>?_)
theorem numnahref07_Within.calls (k:Nat) (a0_0:Int) (a0_1:Int) (a1:Int) (a2:Int) (a3:Int) (r:Bool) (w:World) (h:numnahref07_Within.f k a0_0 a0_1 a1 a2 a3 = some r) :
  Calls Try.prog 69 #[.agg #[.int .i64 a0_0,.int .i64 a0_1],.int .i64 a1,.int .i64 a2,.int .i64 a3] w fun e w'=>e = .returned (.bool r) ∧ Below w.heap.size w w':=by
 have hu23:=Try.underlying23
 have HB:=A_ (Below.refl w.heap.size w)
 have H:(if a0_1 ≥ 1 then (if a0_1 ≤ a3 then (if a0_0 ≥ a1 then (if a0_0 ≤ a2 then ((numnahref07_gcd.f k (mx a0_0 (wrap64 (-a0_0))) a0_1).bind fun t452=>(some (t452 == 1))) else (some false)) else (some false)) else (some false)) else (some false)) = some r:=h
 clear h
 by_cases c5:a0_1 ≥ 1
 case neg =>
  rw [if_neg c5] at H
  have c5b0:decide (1 ≤ a0_1) = false:=decide_eq_false c5
  clear c5
  obtain rfl:=Option.some.inj H
  go_enter Try.func69,Try.ntmps69
  go_wp2_with (first | ((with_reducible refine gate_dst (N:=4) rfl ?_);(try (refine gate_guard (by rfl) ?_;dsimp only));refine box_event ?hg (N:=4) ?hd (cs:=#[.int .i64 a0_0,.int .i64 a0_1]) (t:=23) ?hr ?_;(case hd=>rfl);(case hg=>rfl);(case hr=>first | (go_simp;done) | (go_simp;rfl));intro gb451 hg w19 hbox hb;have BK451:=A_ hbox;have GW451:=gw hg HB;have GE451:=GW451;replace HB:=bB HB hb;clear hb hbox hg;have hcz20_0:w19.cell? ⟨gb451,0,none⟩ = some (.int .i64 a0_0):=cz BK451 0;have hcz20_1:w19.cell? ⟨gb451,1,none⟩ = some (.int .i64 a0_1):=cz BK451 1;have hfz20_0:=blk_frozen BK451.out 0;have hfz20_1:=blk_frozen BK451.out 1))
  go_ret
  exact ⟨rfl,by repeat (first | (with_reducible first | exact HB.out | apply below_alloc | apply pw_below_drewN | apply below_drew1 | refine below_set ?_ GE451.out) | exact HB.out)⟩
 rw [if_pos c5] at H
 have c5b0:decide (1 ≤ a0_1) = true:=decide_eq_true c5
 clear c5
 by_cases c6:a0_1 ≤ a3
 case neg =>
  rw [if_neg c6] at H
  have c6b0:decide (a0_1 ≤ a3) = false:=decide_eq_false c6
  clear c6
  obtain rfl:=Option.some.inj H
  go_enter Try.func69,Try.ntmps69
  go_wp2_with (first | ((with_reducible refine gate_dst (N:=4) rfl ?_);(try (refine gate_guard (by rfl) ?_;dsimp only));refine box_event ?hg (N:=4) ?hd (cs:=#[.int .i64 a0_0,.int .i64 a0_1]) (t:=23) ?hr ?_;(case hd=>rfl);(case hg=>rfl);(case hr=>first | (go_simp;done) | (go_simp;rfl));intro gb451 hg w17 hbox hb;have BK451:=A_ hbox;have GW451:=gw hg HB;have GE451:=GW451;replace HB:=bB HB hb;clear hb hbox hg;have hcz18_0:w17.cell? ⟨gb451,0,none⟩ = some (.int .i64 a0_0):=cz BK451 0;have hcz18_1:w17.cell? ⟨gb451,1,none⟩ = some (.int .i64 a0_1):=cz BK451 1;have hfz18_0:=blk_frozen BK451.out 0;have hfz18_1:=blk_frozen BK451.out 1))
  go_ret
  exact ⟨rfl,by repeat (first | (with_reducible first | exact HB.out | apply below_alloc | apply pw_below_drewN | apply below_drew1 | refine below_set ?_ GE451.out) | exact HB.out)⟩
 rw [if_pos c6] at H
 have c6b0:decide (a0_1 ≤ a3) = true:=decide_eq_true c6
 clear c6
 by_cases c7:a0_0 ≥ a1
 case neg =>
  rw [if_neg c7] at H
  have c7b0:decide (a1 ≤ a0_0) = false:=decide_eq_false c7
  clear c7
  obtain rfl:=Option.some.inj H
  go_enter Try.func69,Try.ntmps69
  go_wp2_with (first | ((with_reducible refine gate_dst (N:=4) rfl ?_);(try (refine gate_guard (by rfl) ?_;dsimp only));refine box_event ?hg (N:=4) ?hd (cs:=#[.int .i64 a0_0,.int .i64 a0_1]) (t:=23) ?hr ?_;(case hd=>rfl);(case hg=>rfl);(case hr=>first | (go_simp;done) | (go_simp;rfl));intro gb451 hg w15 hbox hb;have BK451:=A_ hbox;have GW451:=gw hg HB;have GE451:=GW451;replace HB:=bB HB hb;clear hb hbox hg;have hcz16_0:w15.cell? ⟨gb451,0,none⟩ = some (.int .i64 a0_0):=cz BK451 0;have hcz16_1:w15.cell? ⟨gb451,1,none⟩ = some (.int .i64 a0_1):=cz BK451 1;have hfz16_0:=blk_frozen BK451.out 0;have hfz16_1:=blk_frozen BK451.out 1))
  go_ret
  exact ⟨rfl,by repeat (first | (with_reducible first | exact HB.out | apply below_alloc | apply pw_below_drewN | apply below_drew1 | refine below_set ?_ GE451.out) | exact HB.out)⟩
 rw [if_pos c7] at H
 have c7b0:decide (a1 ≤ a0_0) = true:=decide_eq_true c7
 clear c7
 by_cases c8:a0_0 ≤ a2
 case neg =>
  rw [if_neg c8] at H
  have c8b0:decide (a0_0 ≤ a2) = false:=decide_eq_false c8
  clear c8
  obtain rfl:=Option.some.inj H
  go_enter Try.func69,Try.ntmps69
  go_wp2_with (first | ((with_reducible refine gate_dst (N:=4) rfl ?_);(try (refine gate_guard (by rfl) ?_;dsimp only));refine box_event ?hg (N:=4) ?hd (cs:=#[.int .i64 a0_0,.int .i64 a0_1]) (t:=23) ?hr ?_;(case hd=>rfl);(case hg=>rfl);(case hr=>first | (go_simp;done) | (go_simp;rfl));intro gb451 hg w13 hbox hb;have BK451:=A_ hbox;have GW451:=gw hg HB;have GE451:=GW451;replace HB:=bB HB hb;clear hb hbox hg;have hcz14_0:w13.cell? ⟨gb451,0,none⟩ = some (.int .i64 a0_0):=cz BK451 0;have hcz14_1:w13.cell? ⟨gb451,1,none⟩ = some (.int .i64 a0_1):=cz BK451 1;have hfz14_0:=blk_frozen BK451.out 0;have hfz14_1:=blk_frozen BK451.out 1))
  go_ret
  exact ⟨rfl,by repeat (first | (with_reducible first | exact HB.out | apply below_alloc | apply pw_below_drewN | apply below_drew1 | refine below_set ?_ GE451.out) | exact HB.out)⟩
 rw [if_pos c8] at H
 have c8b0:decide (a0_0 ≤ a2) = true:=decide_eq_true c8
 clear c8
 obtain ⟨ji9,hji9⟩:∃ j_:Int,(mx a0_0 (wrap64 (-a0_0))) = j_:=⟨_,rfl⟩
 replace H:((numnahref07_gcd.f k (ji9) a0_1).bind fun t452=>(some (t452 == 1))) = some r:=by first | (rw [hji9] at H;exact H) | (simp only [hji9] at H ⊢;exact H)
 have hji9_:(if a0_0 < (wrap64 (-a0_0)) then (wrap64 (-a0_0)) else a0_0) = ji9:=hji9
 replace H:=Option.bind_eq_some_iff.mp H
 obtain ⟨t452,A100,H⟩:=H
 replace H:(some (t452 == 1)) = some r:=H
 have A10:=A_ A100
 clear A100
 obtain rfl:=Option.some.inj H
 go_enter Try.func69,Try.ntmps69
 go_wp2_with (first | ((with_reducible refine gate_dst (N:=4) rfl ?_);(try (refine gate_guard (by rfl) ?_;dsimp only));refine box_event ?hg (N:=4) ?hd (cs:=#[.int .i64 a0_0,.int .i64 a0_1]) (t:=23) ?hr ?_;(case hd=>rfl);(case hg=>rfl);(case hr=>first | (go_simp;done) | (go_simp;rfl));intro gb451 hg w11 hbox hb;have BK451:=A_ hbox;have GW451:=gw hg HB;have GE451:=GW451;replace HB:=bB HB hb;clear hb hbox hg;have hcz12_0:w11.cell? ⟨gb451,0,none⟩ = some (.int .i64 a0_0):=cz BK451 0;have hcz12_1:w11.cell? ⟨gb451,1,none⟩ = some (.int .i64 a0_1):=cz BK451 1;have hfz12_0:=blk_frozen BK451.out 0;have hfz12_1:=blk_frozen BK451.out 1) | (go_at_call 73;(with_reducible refine (numnahref07_gcd.calls k ji9 a0_1 t452 _ A10.out).mono ?_);rintro e w' ⟨rfl,⟨nd,rfl⟩⟩))
 go_ret
 exact ⟨by first | rfl | (simp [errW_none,errW_some] <;> rfl) | (simp only [← hji9];first | rfl | (simp [errW_none,errW_some] <;> rfl)) | (simp [*,errW_none,errW_some] <;> rfl),by repeat (first | (with_reducible first | exact HB.out | apply below_alloc | apply pw_below_drewN | apply below_drew1 | refine below_set ?_ GE451.out) | exact HB.out)⟩
end Go.Proofs.Ytjohcjfmlhihbaa.G
namespace Go.Proofs.Ytjohcjfmlhihbaa.P
open Go Go.RowKit Go.Proofs.Ytjohcjfmlhihbaa.G
open Go.Proofs.YtjohcjfmlhihbaaW.PrintWords Go.Proofs.YtjohcjfmlhihbaaW.PrintMore
theorem wrap_id {x:Int} (h0:-9223372036854775808 ≤ x) (h1:x ≤ 9223372036854775807):wrap64 x = x:=by unfold wrap64;omega
theorem wrap_abs {x:Int} (h:x.natAbs < 9223372036854775808):wrap64 x = x:=by unfold wrap64;omega
theorem wrap_nat {x:Nat} (h:x < 9223372036854775808):wrap64 (x:Int) = (x:Int):=by unfold wrap64;omega
theorem ref_gcd_l:∀ k a b,numnahref07_gcd.l0 k a b = shares_gcd.l0 k a b
 | 0,_,_=>rfl
 | k + 1,a,b=>by rw [numnahref07_gcd.l0,shares_gcd.l0,ref_gcd_l k]
theorem ref_gcd (k:Nat) (a b:Int):numnahref07_gcd.f k a b = shares_gcd.f k a b:=ref_gcd_l k a b
theorem ref_reduced (k:Nat) (a b:Int):numnahref07_Reduced.f k a b = shares_frac.f k a b:=by unfold numnahref07_Reduced.f shares_frac.f;rw [ref_gcd]
theorem gcd_l0:∀ (k a b:Nat),b < k → shares_gcd.l0 k (a:Int) (b:Int) = some ((Nat.gcd a b:Nat):Int)
 | k + 1,a,b,h=>by
  rw [shares_gcd.l0]
  by_cases h0:(b:Int) > 0
  ·rw [if_pos h0,if_neg (by omega)]
   have hm:Int.tmod (a:Int) (b:Int) = ((a % b:Nat):Int):=by
    rw [Int.tmod_eq_emod_of_nonneg (by omega)];rfl
   have hb:0 < b:=by omega
   have hlt:=Nat.mod_lt a hb
   rw [hm,gcd_l0 k b (a % b) (by omega),Nat.gcd_comm a b,Nat.gcd_rec b a,Nat.gcd_comm]
  ·rw [if_neg h0]
   have hb:b = 0:=by omega
   subst hb
   rw [Nat.gcd_zero_right]
theorem ev_gcd (a b:Nat):Ev (fun k=>shares_gcd.f k (a:Int) (b:Int)) ((Nat.gcd a b:Nat):Int):=⟨b + 1,fun k hk=>gcd_l0 k a b (by omega)⟩
theorem mx_abs {n:Int} (h:n.natAbs < 9223372036854775808):mx n (wrap64 (-n)) = (n.natAbs:Int):=by
 rw [wrap_abs (by rw [Int.natAbs_neg];exact h)]
 unfold mx
 split <;> omega
theorem ev_frac (n:Int) (d:Nat) (hd:0 < d) (hn:n.natAbs < 9223372036854775808) (hd2:d < 9223372036854775808):Ev (fun k=>shares_frac.f k n (d:Int)) ((mkRat n d).num,((mkRat n d).den:Int)):=by
 unfold shares_frac.f
 rw [mx_abs hn]
 refine Ev.bind (ev_gcd n.natAbs d) ?_
 have hg:Nat.gcd n.natAbs d ≠ 0:=fun e=>by have:=Nat.eq_zero_of_gcd_eq_zero_right e;omega
 refine Ev.congr (fun k=>if_neg (by omega)) ?_
 rw [red_num n (by omega),red_den n (by omega)]
 have h1:=num_le n d
 have h2:=den_le (n:=n) (d:=d) (by omega)
 rw [wrap_abs (by omega),wrap_nat (by omega)]
 exact Ev.now _
theorem ev_add {p q:Rat} (h:Fits p q):Ev (fun k=>shares_add.f k p.num (p.den:Int) q.num (q.den:Int)) ((p + q).num,((p + q).den:Int)):=by
 unfold shares_add.f
 refine Ev.bind (ev_gcd p.den q.den) ?_
 have hp:=den_pos p
 have hq:=den_pos q
 have h1:=h.num
 have h2:=h.den
 obtain ⟨g,hg⟩:∃ g,g = Nat.gcd p.den q.den:=⟨_,rfl⟩
 have hs:=add_small p q g hg
 have g1:g ∣ p.den:=by rw [hg];exact Nat.gcd_dvd_left _ _
 have g2:g ∣ q.den:=by rw [hg];exact Nat.gcd_dvd_right _ _
 have g0:0 < g:=Nat.pos_of_dvd_of_pos g1 hp
 rw [← hg]
 refine Ev.congr (fun k=>if_neg (by omega)) ?_
 rw [tdiv_nat,tdiv_nat]
 have hpd:p.den / g ≤ p.den:=Nat.div_le_self _ _
 have hqd:q.den / g ≤ q.den:=Nat.div_le_self _ _
 have hp1:1 ≤ p.den / g:=Nat.div_pos (Nat.le_of_dvd hp g1) g0
 have hpD:p.den ≤ p.den * q.den:=Nat.le_mul_of_pos_right _ hq
 have hqD:q.den ≤ p.den * q.den:=Nat.le_mul_of_pos_left _ hp
 rw [wrap_nat (by omega:q.den / g < _),wrap_nat (by omega:p.den / g < _)]
 have a1:(p.num * ((q.den / g:Nat):Int)).natAbs ≤ p.num.natAbs * q.den:=by
  rw [Int.natAbs_mul,Int.natAbs_natCast];exact Nat.mul_le_mul_left _ hqd
 have a2:(q.num * ((p.den / g:Nat):Int)).natAbs ≤ q.num.natAbs * p.den:=by
  rw [Int.natAbs_mul,Int.natAbs_natCast];exact Nat.mul_le_mul_left _ hpd
 have a3:p.den / g * q.den ≤ p.den * q.den:=Nat.mul_le_mul_right _ hpd
 rw [wrap_abs (by omega:(p.num * ((q.den / g:Nat):Int)).natAbs < _),wrap_abs (by omega:(q.num * ((p.den / g:Nat):Int)).natAbs < _)]
 have a4:=Int.natAbs_add_le (p.num * ((q.den / g:Nat):Int)) (q.num * ((p.den / g:Nat):Int))
 rw [wrap_abs (by omega:(p.num * ((q.den / g:Nat):Int) + q.num * ((p.den / g:Nat):Int)).natAbs < _)]
 have e:((p.den / g:Nat):Int) * (q.den:Int) = ((p.den / g * q.den:Nat):Int):=by push_cast;rfl
 rw [e,wrap_nat (by omega:p.den / g * q.den < _)]
 have hpos:0 < p.den / g * q.den:=Nat.mul_pos hp1 hq
 refine Ev.bind (ev_frac _ _ hpos (by omega) (by omega)) ?_
 rw [hs]
 exact Ev.now _
theorem ev_minus {p q:Rat} (h:Fits p q):Ev (fun k=>shares_minus.f k p.num (p.den:Int) q.num (q.den:Int)) ((p - q).num,((p - q).den:Int)):=by
 unfold shares_minus.f
 have h1:=h.num
 have h2:=den_pos p
 have h3:q.num.natAbs ≤ q.num.natAbs * p.den:=Nat.le_mul_of_pos_right _ h2
 have e:wrap64 (-q.num) = (-q).num:=by rw [Rat.neg_num,wrap_abs (by rw [Int.natAbs_neg];omega)]
 rw [e]
 refine Ev.bind (a:=((p + -q).num,((p + -q).den:Int))) ?_ (by rw [sub_neg];exact Ev.now _)
 have:=ev_add (p:=p) (q:=-q) h.neg
 rw [Rat.neg_den] at this
 exact this
theorem ev_over (q:Rat) {n:Nat} (hn:0 < n) (h1:q.num.natAbs < 9223372036854775808) (h2:q.den * n < 9223372036854775808):Ev (fun k=>shares_over.f k q.num (q.den:Int) (n:Int)) ((q / (n:Rat)).num,((q / (n:Rat)).den:Int)):=by
 unfold shares_over.f
 have e:(q.den:Int) * (n:Int) = ((q.den * n:Nat):Int):=by push_cast;rfl
 rw [e,wrap_nat h2]
 refine Ev.bind (ev_frac _ _ (Nat.mul_pos (den_pos q) hn) h1 h2) ?_
 rw [mk_over q hn]
 exact Ev.now _
def cmpR (p q:Rat):Int:=if p < q then -1 else if q < p then 1 else 0
theorem cmpR_le (p q:Rat):cmpR p q ≤ 0 ↔ p ≤ q:=by
 unfold cmpR
 split
 ·constructor <;> intro _ <;> grind
 ·split
  ·constructor <;> intro _ <;> grind
  ·constructor <;> intro _ <;> grind
theorem cmpR_lt (p q:Rat):cmpR p q < 0 ↔ p < q:=by
 unfold cmpR
 split
 ·constructor <;> intro _ <;> grind
 ·split
  ·constructor <;> intro _ <;> grind
  ·constructor <;> intro _ <;> grind
theorem ev_compare {p q:Rat} (h:Fits p q):Ev (fun k=>shares_compare.f k p.num (p.den:Int) q.num (q.den:Int)) (cmpR p q):=by
 unfold shares_compare.f
 refine Ev.bind (ev_minus h) ?_
 unfold cmp_Compare_int.f cmp_isNaN_int.f
 simp only [Option.bind_some,bne_self_eq_false]
 rw [if_neg (by decide),if_neg (by decide)]
 unfold cmpR
 by_cases h1:p < q
 ·rw [if_pos ((sign_lt p q).2 h1),if_pos h1];exact Ev.now _
 ·rw [if_neg (fun e=>h1 ((sign_lt p q).1 e)),if_neg h1]
  by_cases h2:q < p
  ·rw [if_pos ((sign_gt p q).2 h2),if_pos h2];exact Ev.now _
  ·rw [if_neg (fun e=>h2 ((sign_gt p q).1 e)),if_neg h2];exact Ev.now _
theorem ev_smaller {p q:Rat} (h:Fits p q):Ev (fun k=>shares_smaller.f k p.num (p.den:Int) q.num (q.den:Int)) ((min p q).num,((min p q).den:Int)):=by
 unfold shares_smaller.f
 refine Ev.bind (ev_compare h) ?_
 rw [Rat.min_def]
 by_cases hpq:p ≤ q
 ·rw [if_pos ((cmpR_le p q).2 hpq),if_pos hpq];exact Ev.now _
 ·rw [if_neg (fun e=>hpq ((cmpR_le p q).1 e)),if_neg hpq];exact Ev.now _
theorem mk_add (p q:Rat):mkRat (p.num * (q.den:Int) + q.num * (p.den:Int)) (p.den * q.den) = p + q:=(Rat.add_def' p q).symm
theorem ev_radd {p q:Rat} (h:Fits p q):Ev (fun k=>numnahref07_Add.f k p.num (p.den:Int) q.num (q.den:Int)) ((p + q).num,((p + q).den:Int)):=by
 unfold numnahref07_Add.f
 have hp:=den_pos p
 have hq:=den_pos q
 have h1:=h.num
 have h2:=h.den
 have a1:(p.num * (q.den:Int)).natAbs = p.num.natAbs * q.den:=by rw [Int.natAbs_mul,Int.natAbs_natCast]
 have a2:(q.num * (p.den:Int)).natAbs = q.num.natAbs * p.den:=by rw [Int.natAbs_mul,Int.natAbs_natCast]
 have a4:=Int.natAbs_add_le (p.num * (q.den:Int)) (q.num * (p.den:Int))
 rw [wrap_abs (by omega:(p.num * (q.den:Int)).natAbs < _),wrap_abs (by omega:(q.num * (p.den:Int)).natAbs < _),wrap_abs (by omega:(p.num * (q.den:Int) + q.num * (p.den:Int)).natAbs < _)]
 have e:(p.den:Int) * (q.den:Int) = ((p.den * q.den:Nat):Int):=by push_cast;rfl
 rw [e,wrap_nat h2]
 simp only [ref_reduced]
 refine Ev.bind (ev_frac _ _ (Nat.mul_pos hp hq) (by omega) h2) ?_
 rw [mk_add]
 exact Ev.now _
theorem ev_rsub {p q:Rat} (h:Fits p q):Ev (fun k=>numnahref07_Sub.f k p.num (p.den:Int) q.num (q.den:Int)) ((p - q).num,((p - q).den:Int)):=by
 unfold numnahref07_Sub.f
 have hp:=den_pos p
 have hq:=den_pos q
 have h1:=h.num
 have h2:=h.den
 have a1:(p.num * (q.den:Int)).natAbs = p.num.natAbs * q.den:=by rw [Int.natAbs_mul,Int.natAbs_natCast]
 have a2:(q.num * (p.den:Int)).natAbs = q.num.natAbs * p.den:=by rw [Int.natAbs_mul,Int.natAbs_natCast]
 have a4:(p.num * (q.den:Int) - q.num * (p.den:Int)).natAbs ≤ (p.num * (q.den:Int)).natAbs + (q.num * (p.den:Int)).natAbs:=by omega
 rw [wrap_abs (by omega:(p.num * (q.den:Int)).natAbs < _),wrap_abs (by omega:(q.num * (p.den:Int)).natAbs < _),wrap_abs (by omega:(p.num * (q.den:Int) - q.num * (p.den:Int)).natAbs < _)]
 have e:(p.den:Int) * (q.den:Int) = ((p.den * q.den:Nat):Int):=by push_cast;rfl
 rw [e,wrap_nat h2]
 simp only [ref_reduced]
 refine Ev.bind (ev_frac _ _ (Nat.mul_pos hp hq) (by omega) h2) ?_
 have:mkRat (p.num * (q.den:Int) - q.num * (p.den:Int)) (p.den * q.den) = p - q:=(Rat.sub_def' p q).symm
 rw [this]
 exact Ev.now _
theorem ev_rhalf {q:Rat} (h1:q.num.natAbs < 9223372036854775808) (h2:2 * q.den < 9223372036854775808):Ev (fun k=>numnahref07_Half.f k q.num (q.den:Int)) ((q / 2).num,((q / 2).den:Int)):=by
 unfold numnahref07_Half.f
 have e:2 * (q.den:Int) = ((q.den * 2:Nat):Int):=by push_cast;omega
 rw [e,wrap_nat (by omega)]
 simp only [ref_reduced]
 refine Ev.bind (ev_frac _ _ (by have:=den_pos q;omega) h1 (by omega)) ?_
 have e2:mkRat q.num (q.den * 2) = q / 2:=by
  have:=mk_over q (n:=2) (by omega)
  exact this
 rw [e2]
 exact Ev.now _
theorem rless {p q:Rat} (h:Fits p q):numnahref07_Less.f p.num (p.den:Int) q.num (q.den:Int) = some (decide (p < q)):=by
 unfold numnahref07_Less.f
 have h1:=h.num
 have a1:(p.num * (q.den:Int)).natAbs = p.num.natAbs * q.den:=by rw [Int.natAbs_mul,Int.natAbs_natCast]
 have a2:(q.num * (p.den:Int)).natAbs = q.num.natAbs * p.den:=by rw [Int.natAbs_mul,Int.natAbs_natCast]
 rw [wrap_abs (by omega:(p.num * (q.den:Int)).natAbs < _),wrap_abs (by omega:(q.num * (p.den:Int)).natAbs < _)]
 congr 1
 rw [Bool.eq_iff_iff,decide_eq_true_iff,decide_eq_true_iff]
 exact less_iff p q
end Go.Proofs.Ytjohcjfmlhihbaa.P

/- Several texts, joined. -/
import Derived.Test.YtjohcjfmlhihbaaQE3
set_option linter.unusedVariables false
set_option linter.unusedSimpArgs false
namespace Go.Proofs.Ytjohcjfmlhihbaa.G
open Go.RowKit Go.Proofs.YtjohcjfmlhihbaaW.PrintWords Go.Proofs.YtjohcjfmlhihbaaW.PrintLast Go.Proofs.YtjohcjfmlhihbaaW.PrintMore
set_option maxHeartbeats 8000000
set_option maxRecDepth 100000
attribute [local go_sem] cond_true cond_false fld23_0 fld23_1 fld45_0 fld45_1 fld109_0 fld109_1 fld94_0 fld94_1 max2_int min2_int max_two min_two max_three min_three max_four min_four   -- for this text's walks alone
def shares_claims_awards.f (k:Nat) (b6:List Int) (b3:Int):Option ((List (S23))):=(each_whole.f k b6 b3).bind fun b4=>((shares_whole.f b3).bind fun b1=>((shares_equal.f k b4 b1.1 b1.2).bind fun b5=>(some b5)))
theorem shares_claims_awards.mono:∀ a0 a1 k,LeO (shares_claims_awards.f k a0 a1) (shares_claims_awards.f (k + 1) a0 a1):=by
 intro a0 a1 k
 unfold shares_claims_awards.f
 repeat' first
   | (with_reducible exact each_whole.mono _ _ _)
   | (with_reducible exact shares_equal.mono _ _ _ _)
   | (with_reducible exact LeO.refl _)
   | (with_reducible exact LeO.none _)
   | (with_reducible refine LeO.ite ?_ ?_)
   | (with_reducible refine LeO.bind ?_ (fun _=>?_))
   | exact each_whole.mono _ _ _
   | exact shares_equal.mono _ _ _ _
   | exact LeO.none _
   | refine LeO.ite ?_ ?_
   | refine LeO.bind ?_ (fun _=>?_)
theorem shares_claims_awards.calls (k:Nat) (b7:Option Addr) (b8:Nat) (b6:List Int) (b3:Int) (r:List (S23)) (w:World) (d0:Kd.C (Kd.int .i64) w b7 b6.length b6) (d1:b6.length ≤ b8) (h:shares_claims_awards.f k b6 b3 = some r) :
  Calls Try.prog 98 #[.agg #[.slice b7 b6.length b8,.int .i64 b3]] w fun e w'=>∃ d8:Value,e = .returned (d8) ∧ Kd.R k23 23 w' w.heap.size (fun _=>True) d8 r ∧ Below w.heap.size w w':=by
 have e6:=Try.underlying94
 have d6:=A_ d0
 have d7:=A_ d1
 clear d0 d1
 have HB:=A_ (Below.refl w.heap.size w)
 have H:((each_whole.f k b6 b3).bind fun b4=>((shares_whole.f b3).bind fun b1=>((shares_equal.f k b4 b1.1 b1.2).bind fun b5=>(some b5)))) = some r:=h
 clear h
 replace H:=Option.bind_eq_some_iff.mp H
 obtain ⟨b4,d9,H⟩:=H
 replace H:((shares_whole.f b3).bind fun b1=>((shares_equal.f k b4 b1.1 b1.2).bind fun b5=>(some b5))) = some r:=H
 have A2:=A_ d9
 clear d9
 replace H:=Option.bind_eq_some_iff.mp H
 obtain ⟨⟨b9,c0⟩,A30,H⟩:=H
 dsimp only at H
 have A3:=A_ A30
 clear A30
 replace H:=Option.bind_eq_some_iff.mp H
 obtain ⟨b5,e0,H⟩:=H
 replace H:(some b5) = some r:=H
 have A4:=A_ e0
 clear e0
 obtain rfl:=Option.some.inj H
 go_enter Try.func98,Try.ntmps98
 try go_wp2_with (first | ((with_reducible refine gate_dst (N:=1) rfl ?_);refine box_event ?hg (N:=1) ?hd (cs:=#[.slice b7 b6.length b8,.int .i64 b3]) (t:=94) ?hr ?_;(case hd=>rfl);(case hg=>rfl);(case hr=>first | (go_simp;done) | (go_simp;rfl));intro c1 hg w5 hbox hb;have b0:=A_ hbox;have d2:=gw hg HB;have d3:=d2;replace HB:=bB HB hb;clear hb hbox hg))
 replace b0:=A_ (blk_drew b0.out)
 replace HB:=A_ (below_drew1 HB.out)
 refine start_ (n:=7) (S:=fun w'=>w'.cell? ⟨c1,0,none⟩ = some (.slice b7 b6.length b8) ∧ w'.cell? ⟨c1,1,none⟩ = some (.int .i64 b3)) (ds:=[]) (ba 7 0) (by kernel_rfl) rfl rfl ⟨cz b0 0,cz b0 1⟩ (fun hHeld=>?_)
 generalize w5.drew = w6 at b0 HB hHeld ⊢
 refine pr 2 5 4 ?_
 refine tr 0 3 5 hHeld ?_
 refine tr 3 6 13 hHeld ?_
 refine os 1 4 15 (fun K hK=>?_)
 refine gq Try.func120 #[.agg #[.slice b7 b6.length b8,.int .i64 b3],.func (.func 64) #[] #[]] ?_
 with_reducible refine (each_whole.calls k _ _ b6 b3 b4 _ ?side1 ?side2 A2.out).mono ?_
 (case side1=>exact cB d6 HB)
 (case side2=>exact d7.out)
 rintro e w7 ⟨e1,rfl,d5,hb⟩
 refine ⟨_,rfl,?_⟩
 have b2:=A_ (Kd.R_lower d5 (below_size HB.out))
 replace b0:=kB b0 hb
 replace HB:=bB HB hb
 (try clear hb)
 (try clear d5)
 refine hK.out _ _ ⟨cz b0 0,cz b0 1⟩ (fun hHeld=>?_)
 clear hK K
 refine nq 4 ?_
 refine os 4 7 31 (fun K hK=>?_)
 refine gq Try.func64 #[.int .i64 b3] ?_
 with_reducible refine (shares_whole.calls b3 b9 c0 _ A3.out).mono ?_
 rintro e w8 ⟨rfl,hb⟩
 refine ⟨_,rfl,?_⟩
 replace b2:=rB b2 hb
 replace b0:=kB b0 hb
 replace HB:=bB HB hb
 (try clear hb)
 obtain ⟨e7,e8,e2⟩:=Kd.R_slice b2.out
 (first | subst e2 | (injection e2 with e3 e9 e4;have h0:=e3.symm;have h1:=e4.symm;clear e3 e9 e4;subst h0;subst h1))
 refine hK.out _ _ ⟨cz b0 0,cz b0 1⟩ (fun hHeld=>?_)
 clear hK K
 refine nq 7 ?_
 refine os 5 8 63 (fun K hK=>?_)
 refine gq Try.func122 #[.slice e7 b4.length e8,.agg #[.int .i64 b9,.int .i64 c0]] ?_
 with_reducible refine (shares_equal.calls k _ _ b4 b9 c0 b5 _ ?side1 ?side2 A4.out).mono ?_
 (case side1=>repeat (first | exact (Kd.R_reads' b2.out).2.2 | (with_reducible refine Kd.C_alloc ?_ _) | (with_reducible refine Kd.C_drewN ?_ _) | (with_reducible refine Kd.C_drew ?_)))
 (case side2=>exact (Kd.R_reads' b2.out).2.1)
 rintro e h2 ⟨e5,rfl,d5,hb⟩
 refine ⟨_,rfl,?_⟩
 have d4:=A_ (Kd.R_lower (Kd.R_new' d5 (Kd.R_lt b2.out)) (below_size HB.out))
 replace b2:=A_ (Kd.R_elder' b2.out (Kd.R_base d5) hb)
 replace b0:=kB b0 hb
 replace HB:=bB HB hb
 (try clear hb)
 (try clear d5)
 refine hK.out _ _ ⟨cz b0 0,cz b0 1⟩ (fun hHeld=>?_)
 clear hK K
 refine nq 8 ?_
 refine pr 6 2 127 ?_
 refine done_ (by kernel_rfl) ?_
 try go_wp2
 go_ret
 exact ⟨_,rfl,by (with_reducible repeat (first | apply Kd.R_alloc | apply Kd.R_drewN | apply Kd.R_drew));exact Kd.R_mono d4.out (fun _ hk=>trivial),by repeat (first | (with_reducible first | exact HB.out | apply below_alloc | apply pw_below_drewN | apply below_drew1 | refine below_set ?_ d3.out) | exact HB.out)⟩
end Go.Proofs.Ytjohcjfmlhihbaa.G
namespace Go.Proofs.Ytjohcjfmlhihbaa.G
open Go.RowKit Go.Proofs.YtjohcjfmlhihbaaW.PrintWords Go.Proofs.YtjohcjfmlhihbaaW.PrintLast Go.Proofs.YtjohcjfmlhihbaaW.PrintMore
set_option maxHeartbeats 8000000
set_option maxRecDepth 100000
attribute [local go_sem] cond_true cond_false fld23_0 fld23_1 fld45_0 fld45_1 fld109_0 fld109_1 fld94_0 fld94_1 max2_int min2_int max_two min_two max_three min_three max_four min_four
def shares_claims_losses.l0:Nat → List (S23) → List (S23) → List Int → Int → Int → Option ((List (S23)))
 | 0,_,_,_,_,_=>none
 | k + 1,x3,x4,l7,x19,h1=>if h1 < x19 then (if 0 ≤ h1 then (if h1 < (l7.length:Int) then ((shares_whole.f (rd l7 h1)).bind fun d9=>(if h1 < (x3.length:Int) then ((shares_minus.f k d9.1 d9.2 ((rd_T23 x3 h1).f0) ((rd_T23 x3 h1).f1)).bind fun e0=>(if x4.length < 8796093022208 then (shares_claims_losses.l0 k x3 (x4 ++ [(⟨e0.1,e0.2⟩:S23)]) l7 x19 (wrap64 (h1 + 1))) else (none))) else (none))) else (none)) else (none)) else (some x4)
def shares_claims_losses.f (k:Nat) (b1:List Int) (b5:Int):Option ((List (S23))):=(each_whole.f k b1 b5).bind fun b8=>((shares_total.f k b1).bind fun b7=>((shares_whole.f (wrap64 (b7 - b5))).bind fun b4=>((shares_equal.f k b8 b4.1 b4.2).bind fun b3=>(shares_claims_losses.l0 k b3 ([]:List (S23)) b1 (b1.length:Int) 0))))
theorem shares_claims_losses.mono_l:∀ k,(∀ y0 y1 y2 y3 y4,LeO (shares_claims_losses.l0 k y0 y1 y2 y3 y4) (shares_claims_losses.l0 (k + 1) y0 y1 y2 y3 y4))
 | 0=>fun _ _ _ _ _ r h=>by simp [shares_claims_losses.l0] at h
 | k + 1=>by
  have l8:=shares_claims_losses.mono_l k
  intro y0 y1 y2 y3 y4
  unfold shares_claims_losses.l0
  repeat' first
  | (with_reducible first | exact l8 _ _ _ _ _ | exact each_whole.mono _ _ _ | exact shares_equal.mono _ _ _ _ | exact shares_minus.mono _ _ _ _ _ | exact shares_total.mono _ _ | exact LeO.refl _ | exact LeO.none _ | refine LeO.ite ?_ ?_ | refine LeO.bind ?_ (fun _=>?_))
  | exact LeO.none _ | refine LeO.ite ?_ ?_ | refine LeO.bind ?_ (fun _=>?_)
theorem shares_claims_losses.mono:∀ a0 a1 k,LeO (shares_claims_losses.f k a0 a1) (shares_claims_losses.f (k + 1) a0 a1):=by
 intro a0 a1 k
 have l8:=shares_claims_losses.mono_l k
 unfold shares_claims_losses.f
 repeat' first
   | (with_reducible first | exact l8 _ _ _ _ _ | exact each_whole.mono _ _ _ | exact shares_equal.mono _ _ _ _ | exact shares_minus.mono _ _ _ _ _ | exact shares_total.mono _ _ | exact LeO.refl _ | exact LeO.none _ | refine LeO.ite ?_ ?_ | refine LeO.bind ?_ (fun _=>?_))
   | exact LeO.none _ | refine LeO.ite ?_ ?_ | refine LeO.bind ?_ (fun _=>?_)
def shares_claims_losses.T1:Bool × List (List Nat × List Nat):=(true,[([],[]),([0],[0]),([],[]),([2],[2]),([3,1],[3]),([],[]),([5],[5]),([4,6],[4,6]),([7,4],[7]),([1,8,8],[1,8]),([9,9,0,1,2,3,4,5,6,7,8,9],[9])])
def shares_claims_losses.B1:List Nat:=[0,1,0,4,15,0,32,127,255,511,1023]
theorem shares_claims_losses.tab1:rtab .any (opsOf Try.f99 1) = shares_claims_losses.T1:=by kernel_rfl
theorem shares_claims_losses.bits1:waitsOk shares_claims_losses.T1.2 shares_claims_losses.B1 = true:=by kernel_rfl
def shares_claims_losses.T6:Bool × List (List Nat × List Nat):=(true,[([],[]),([],[]),([1],[1]),([],[]),([],[]),([3,4],[3,4]),([5],[5]),([2,6,2],[2,6]),([7],[7]),([0,8,7],[0,8]),([9,9,0,1,2,3,4,5,6,7,8,9],[0,9])])
def shares_claims_losses.B6:List Nat:=[0,0,2,0,0,24,56,126,254,511,1023]
theorem shares_claims_losses.tab6:rtab .any (opsOf Try.f99 6) = shares_claims_losses.T6:=by kernel_rfl
theorem shares_claims_losses.bits6:waitsOk shares_claims_losses.T6.2 shares_claims_losses.B6 = true:=by kernel_rfl
theorem shares_claims_losses.calls (k:Nat) (d4:Option Addr) (d2:Nat) (b1:List Int) (b5:Int) (r:List (S23)) (w:World) (h2:Kd.C (Kd.int .i64) w d4 b1.length b1) (h3:b1.length ≤ d2) (h:shares_claims_losses.f k b1 b5 = some r) :
  Calls Try.prog 99 #[.agg #[.slice d4 b1.length d2,.int .i64 b5]] w fun e w'=>∃ m9:Value,e = .returned (m9) ∧ Kd.R k23 23 w' w.heap.size (fun _=>True) m9 r ∧ Below w.heap.size w w':=by
 have o4:=Try.underlying94
 have o5:=Try.underlying23
 have e1:=A_ h2
 have h4:=A_ h3
 clear h2 h3
 have HB:=A_ (Below.refl w.heap.size w)
 have H:((each_whole.f k b1 b5).bind fun b8=>((shares_total.f k b1).bind fun b7=>((shares_whole.f (wrap64 (b7 - b5))).bind fun b4=>((shares_equal.f k b8 b4.1 b4.2).bind fun b3=>(shares_claims_losses.l0 k b3 ([]:List (S23)) b1 (b1.length:Int) 0))))) = some r:=h
 clear h
 replace H:=Option.bind_eq_some_iff.mp H
 obtain ⟨b8,n0,H⟩:=H
 replace H:((shares_total.f k b1).bind fun b7=>((shares_whole.f (wrap64 (b7 - b5))).bind fun b4=>((shares_equal.f k b8 b4.1 b4.2).bind fun b3=>(shares_claims_losses.l0 k b3 ([]:List (S23)) b1 (b1.length:Int) 0)))) = some r:=H
 have A2:=A_ n0
 clear n0
 replace H:=Option.bind_eq_some_iff.mp H
 obtain ⟨b7,n1,H⟩:=H
 replace H:((shares_whole.f (wrap64 (b7 - b5))).bind fun b4=>((shares_equal.f k b8 b4.1 b4.2).bind fun b3=>(shares_claims_losses.l0 k b3 ([]:List (S23)) b1 (b1.length:Int) 0))) = some r:=H
 have A3:=A_ n1
 clear n1
 replace H:=Option.bind_eq_some_iff.mp H
 obtain ⟨⟨e2,e3⟩,A40,H⟩:=H
 dsimp only at H
 have A4:=A_ A40
 clear A40
 replace H:=Option.bind_eq_some_iff.mp H
 obtain ⟨b3,n2,H⟩:=H
 replace H:(shares_claims_losses.l0 k b3 ([]:List (S23)) b1 (b1.length:Int) 0) = some r:=H
 have A5:=A_ n2
 clear n2
 have H':=A_ H
 clear H
 go_enter Try.func99,Try.ntmps99
 try go_wp2_with (first | ((with_reducible refine gate_dst (N:=1) rfl ?_);refine bx 1 #[.slice d4 b1.length d2,.int .i64 b5] 94 ?_;intro b9 hg w6 hbox hb;have b0:=A_ hbox;have h7:=gw hg HB;have l9:=h7;replace HB:=bB HB hb;clear hb hbox hg))
 replace b0:=kD b0
 replace HB:=bD HB
 refine st 11 (fun w'=>w'.cell? ⟨b9,0,none⟩ = some (.slice d4 b1.length d2) ∧ w'.cell? ⟨b9,1,none⟩ = some (.int .i64 b5)) [] shares_claims_losses.tab1 shares_claims_losses.bits1 (fun hHeld HT_ HW_=>?_)
 generalize w6.drew = w7 at b0 HB hHeld ⊢
 refine pq 2 9 4 HT_ ?_
 refine pq 5 12 36 HT_ ?_
 refine tq 0 7 37 HT_ HW_ hHeld ?_
 refine tq 3 10 45 HT_ HW_ hHeld ?_
 refine tq 6 13 109 HT_ HW_ hHeld ?_
 refine oq 1 8 111 HT_ (fun K hK=>?_)
 refine gq Try.func120 #[.agg #[.slice d4 b1.length d2,.int .i64 b5],.func (.func 64) #[] #[]] ?_
 with_reducible refine (each_whole.calls k _ _ b1 b5 b8 _ ?side1 ?side2 A2.out).mono ?_
 (case side1=>exact cB e1 HB)
 (case side2=>exact h4.out)
 rintro e w8 ⟨n3,rfl,j7,hb⟩
 refine ⟨_,rfl,?_⟩
 have b6:=A_ (Kd.R_lower j7 (below_size HB.out))
 replace b0:=kB b0 hb
 replace HB:=bB HB hb
 (try clear hb)
 refine hz hK (fun hHeld=>?_)
 clear hK K
 refine nq 8 ?_
 refine oq 4 11 127 HT_ (fun K hK=>?_)
 refine gq Try.func93 #[.slice d4 b1.length d2] ?_
 with_reducible refine (shares_total.calls k _ _ b1 b7 _ ?side1 ?side2 A3.out).mono ?_
 (case side1=>exact cB e1 HB)
 (case side2=>exact h4.out)
 rintro e w' ⟨rfl,⟨nd,rfl⟩⟩
 refine ⟨_,rfl,?_⟩
 refine hz hK (fun hHeld=>?_)
 clear hK K
 refine nq 11 ?_
 refine pq 7 14 255 HT_ ?_
 refine oq 8 15 511 HT_ (fun K hK=>?_)
 refine gq Try.func64 #[.int .i64 (wrap64 (b7 - b5))] ?_
 with_reducible refine (shares_whole.calls (wrap64 (b7 - b5)) e2 e3 _ A4.out).mono ?_
 rintro e w9 ⟨rfl,hb⟩
 refine ⟨_,rfl,?_⟩
 replace b6:=rB b6 hb
 replace b0:=kB b0 hb
 replace HB:=bB HB hb
 (try clear hb)
 obtain ⟨m0,m1,i3⟩:=Kd.R_slice b6.out
 (first | subst i3 | (injection i3 with i4 m2 i5;have m3:=i4.symm;have m4:=i5.symm;clear i4 m2 i5;subst m3;subst m4))
 refine hz hK (fun hHeld=>?_)
 clear hK K
 refine nq 15 ?_
 refine oq 9 16 1023 HT_ (fun K hK=>?_)
 refine gq Try.func122 #[.slice m0 b8.length m1,.agg #[.int .i64 e2,.int .i64 e3]] ?_
 with_reducible refine (shares_equal.calls k _ _ b8 e2 e3 b3 _ ?side1 ?side2 A5.out).mono ?_
 (case side1=>repeat (first | exact (Kd.R_reads' b6.out).2.2 | (with_reducible refine Kd.C_alloc ?_ _) | (with_reducible refine Kd.C_drewN ?_ _) | (with_reducible refine Kd.C_drew ?_)))
 (case side2=>exact (Kd.R_reads' b6.out).2.1)
 rintro e n4 ⟨h5,rfl,j7,hb⟩
 refine ⟨_,rfl,?_⟩
 have h8:=A_ (Kd.R_lower (Kd.R_new' j7 (Kd.R_lt b6.out)) (below_size HB.out))
 replace b6:=A_ (Kd.R_elder' b6.out (Kd.R_base j7) hb)
 replace b0:=kB b0 hb
 replace HB:=bB HB hb
 (try clear hb)
 refine hz hK (fun hHeld=>?_)
 clear hK K
 refine nq 16 ?_
 refine pq 10 3 2047 HT_ ?_
 refine done_ (done_of HT_.out (by kernel_rfl)) ?_
 have j8:n4.cell? ⟨b9,0,none⟩ = some (.slice d4 b1.length d2):=cz b0 0
 have j9:n4.cell? ⟨b9,1,none⟩ = some (.int .i64 b5):=cz b0 1
 have l5:=blk_frozen b0.out 0
 have l6:=blk_frozen b0.out 1
 try go_wp2
 go_loopg [4,20] k (fun kq v4 o6 w'=>∃ (e4:List (S23)) (b2:Int),o6 = .int .i64 b2 ∧ Aside0 (shares_claims_losses.l0 kq b3 e4 b1 (b1.length:Int) b2 = some r) ∧ Aside0 (kq ≤ k) ∧ Aside0 (Kd.R k23 23 w' w.heap.size (fun k_=>some k_ ≠ (v4:Value).ownBlock) h5 b3) ∧ Aside0 (Kd.R k23 23 w' w.heap.size (fun k_=>some k_ ≠ (h5:Value).ownBlock) v4 e4) ∧ Aside0 (w'.heap[b9]? = some (.cells #[(.slice d4 b1.length d2),.int .i64 b5] 94 (0,0))) ∧ Aside0 (Below w.heap.size w w'))
 case atStart=>exact ⟨(([]:List (S23))),(0),rfl,H',⟨Nat.le_refl _⟩,⟨by (with_reducible repeat (first | apply Kd.R_alloc | apply Kd.R_drewN | apply Kd.R_drew));exact Kd.R_mono h8.out (fun _ hk=>(by simp [Value.ownBlock]))⟩,⟨by first | exact Kd.R_nil _ _ _ _ _ | exact Kd.N_nil _ _ _ _ _ | exact Kd.V_nil _ _ _ _ _ | exact Kd.Q_nil _ _ _ _ _ | exact Kd.S_nil _ _ _ _ _⟩,⟨by (with_reducible repeat (first | refine blk_drewN ?_ _ | refine blk_drew ?_ | refine blk_alloc ?_ _));exact b0.out⟩,⟨bl HB⟩⟩
 case round =>
  clear H'
  obtain ⟨e4,b2,rfl,HA,n5,c0,c1,b0,HB⟩:=hrel
  cases gk with
  | zero=>exact absurd HA.out (by simp [shares_claims_losses.l0])
  | succ k1 =>
   have H:=HA.out
   clear HA
   simp only [shares_claims_losses.l0] at H
   by_cases i2:b2 < (b1.length:Int)
   case neg =>
    rw [if_neg i2] at H
    have i6:=decide_eq_false i2
    clear i2
    obtain rfl:=Option.some.inj H
    go_wp2
    go_ret
    exact ⟨_,rfl,by (with_reducible repeat (first | apply Kd.R_alloc | apply Kd.R_drewN | apply Kd.R_drew));exact Kd.R_mono c1.out (fun _ hk=>trivial),bl HB⟩
   rw [if_pos i2] at H
   have i6:=decide_eq_true i2
   clear i2
   replace H:=gd H
   obtain ⟨n6,H⟩:=H
   have n7:=decide_eq_true n6
   clear n6
   replace H:=gd H
   obtain ⟨n8,H⟩:=H
   have n9:=decide_eq_true n8
   clear n8
   replace H:=Option.bind_eq_some_iff.mp H
   obtain ⟨⟨e5,e6⟩,A160,H⟩:=H
   dsimp only at H
   have o7:=A_ A160
   clear A160
   replace H:=gd H
   obtain ⟨o0,H⟩:=H
   have o1:=decide_eq_true o0
   clear o0
   replace H:=Option.bind_eq_some_iff.mp H
   obtain ⟨⟨d5,d6⟩,A180,H⟩:=H
   dsimp only at H
   have o8:=A_ A180
   clear A180
   replace H:=gd H
   obtain ⟨o2,H⟩:=H
   have i7:=A_ o2
   clear o2
   obtain ⟨h6,d0⟩:∃ y_:List (S23),y_ = (e4 ++ [(⟨d5,d6⟩:S23)]):=⟨_,rfl⟩
   replace H:(shares_claims_losses.l0 k1 b3 h6 b1 (b1.length:Int) (wrap64 (b2 + 1))) = some r:=by first | (rw [d0];with_reducible exact H) | (have m5:=(Option.bind_some _ _).symm.trans H;rw [d0];with_reducible exact m5) | (have m5:=(Option.bind_some _ _).symm.trans H;with_reducible exact m5) | with_reducible exact H | (rw [d0];exact H) | exact H
   have h9:=A_ d0
   clear d0
   have H':=A_ H
   clear H
   have e7:0 ≤ (b2:Int):=of_decide_eq_true (by assumption)
   have e8:b2 < (b1.length:Int):=of_decide_eq_true (by assumption)
   obtain ⟨i0,i8,d1⟩:=Kd.at_int e1.out b2 e7 e8
   cases i8
   replace d1:=(HB.out.cell (World.block_lt_of_cell? w _ d1)).trans d1
   replace e7:=eq_true e7
   replace e8:=eq_true e8
   try go_wp2
   replace c0:=rD c0
   replace c1:=rD c1
   replace b0:=kD b0
   replace HB:=bD HB
   obtain ⟨o9,m6,i9⟩:=Kd.R_slice c0.out
   (first | subst i9 | (injection i9 with i4 m2 i5;have m3:=i4.symm;have m4:=i5.symm;clear i4 m2 i5;subst m3;subst m4))
   have e9:0 ≤ (b2:Int):=of_decide_eq_true (by assumption)
   have h0:b2 < (b3.length:Int):=of_decide_eq_true (by assumption)
   obtain ⟨d3,j5,d7,d8⟩:=at_T23 (Kd.R_reads' c0.out).2.2 b2 e9 h0
   cases j5
   replace e9:=eq_true e9
   replace h0:=eq_true h0
   refine start_ (n:=11) (S:=fun w'=>w'.cell? (d3.add ((b2).toNat * 2)) = some (.int .i64 ((rd_T23 b3 b2).f0)) ∧ w'.cell? ⟨(d3.add ((b2).toNat * 2)).block,(d3.add ((b2).toNat * 2)).off + 1,none⟩ = some (.int .i64 ((rd_T23 b3 b2).f1))) (ds:=[8,9]) (ba 11 0) (by kernel_rfl) rfl rfl ⟨d7,d8⟩ (fun hHeld=>?_);refine with_tabW shares_claims_losses.tab6 shares_claims_losses.bits6 (fun HT_ HW_=>?_)
   generalize wr.drew = p0 at c0 c1 b0 HB d7 d8 hHeld ⊢
   refine pq 0 25 1 HT_ ?_
   refine pq 1 26 3 HT_ ?_
   refine pq 3 28 11 HT_ ?_
   refine pq 4 29 27 HT_ ?_
   refine pq 5 30 59 HT_ ?_
   refine tq 6 31 123 HT_ HW_ hHeld ?_
   refine oq 2 27 127 HT_ (fun K hK=>?_)
   refine gq Try.func64 #[.int .i64 (rd b1 b2)] ?_
   with_reducible refine (shares_whole.calls (rd b1 b2) e5 e6 _ o7.out).mono ?_
   rintro e p1 ⟨rfl,hb⟩
   have m7:=(hb.cell (World.block_lt_of_cell? _ _ (hHeld.1))).trans (hHeld.1)
   have m8:=(hb.cell (World.block_lt_of_cell? _ _ (hHeld.2))).trans (hHeld.2)
   refine ⟨_,rfl,?_⟩
   replace c0:=rB c0 hb
   replace c1:=rB c1 hb
   replace b0:=kB b0 hb
   replace HB:=bB HB hb
   (try clear hb)
   refine hz hK (fun hHeld=>?_)
   clear hK K
   refine nq 27 ?_
   refine oq 7 32 255 HT_ (fun K hK=>?_)
   refine gq Try.func95 #[.agg #[.int .i64 e5,.int .i64 e6],.agg #[.int .i64 ((rd_T23 b3 b2).f0),.int .i64 ((rd_T23 b3 b2).f1)]] ?_
   with_reducible refine (shares_minus.calls k1 e5 e6 ((rd_T23 b3 b2).f0) ((rd_T23 b3 b2).f1) d5 d6 _ o8.out).mono ?_
   rintro e p2 ⟨rfl,hb⟩
   have m7:=(hb.cell (World.block_lt_of_cell? _ _ (hHeld.1))).trans (hHeld.1)
   have m8:=(hb.cell (World.block_lt_of_cell? _ _ (hHeld.2))).trans (hHeld.2)
   refine ⟨_,rfl,?_⟩
   replace c0:=rB c0 hb
   replace c1:=rB c1 hb
   replace b0:=kB b0 hb
   replace HB:=bB HB hb
   (try clear hb)
   refine hz hK (fun hHeld=>?_)
   clear hK K
   refine nq 32 ?_
   refine last_ (i:=8) (N:=some 33) (ba 11 511) rfl rfl (one_of HT_.out (by kernel_rfl)) (by decide) (fun K hK=>?_)
   refine value_ (w1:=?_) (v:=?_) (by rfl) rfl ?_ ?_
   rotate_left 2
   ·go_simp
    constructor
    ·rfl
    rfl
   refine hK.out _ _ ?_
   clear hK K
   refine nq 33 ?_
   refine last_ (i:=9) (N:=some 34) (ba 11 1023) rfl rfl (one_of HT_.out (by kernel_rfl)) (by decide) (fun K hK=>?_)
   refine Kd.R_append_step k23 (w0:=w) w.heap.size (by rfl) (.tmp 25) (.tmp 33) 35 23 (.agg #[(.int .i64 0),(.int .i64 0)]) 16 rfl Try.underlying35 info23 rfl (by decide) (by omega) u4 e4 (⟨d5,d6⟩:S23) [.int .i64 d5,.int .i64 d6] (fun k_=>some k_ ≠ (.slice (some d3) b3.length m6:Value).ownBlock) (fun _=>False) rfl rfl ?aP (fun _ hk=>hk.elim) ?aF ?aO ?aB ?aS ?aL ?_
   (case aP=>exact k23_mkM _ _ _ (⟨d5,d6⟩:S23))
   (case aB=>exact HB.out)
   (case aF=>exact (fun k_ hk=>Kd.fresh' (Kd.R_lt c0.out) k_ hk))
   (case aO=>exact c1.out)
   (case aS=>exact (below_size HB.out))
   (case aL=>have:=i7.out;omega)
   intro o3 p3 ho hb hg hat
   rw [← h9.out] at ho
   have i1:=A_ ho
   replace c0:=A_ (Kd.R_after (ok:=(fun _=>True)) (by (with_reducible repeat (first | apply Kd.R_alloc | apply Kd.R_drewN | apply Kd.R_drew));exact Kd.R_mono c0.out (fun _ hk=>⟨trivial,hk⟩)) hg hat)
   replace b0:=A_ (blk_grown (g:=b9) (o:=.cells #[.slice (some i0) b1.length d2,.int .i64 b5] 94 (0,0)) b0.out hg (Kd.R_ne c1.out b0.out (by decide)))
   replace HB:=A_ hb
   clear c1 ho hb hg hat
   refine hK.out _ _ ?_
   clear hK K
   refine nq 34 ?_
   refine pq 10 4 2047 HT_ ?_
   refine done_ (done_of HT_.out (by kernel_rfl)) ?_
   try go_wp2
   go_roundg k1
   case measure=>have:=n5.out;omega
   case rel=>exact ⟨(h6),(wrap64 (b2 + 1)),rfl,H',⟨by have:=n5.out;omega⟩,⟨by (with_reducible repeat (first | apply Kd.R_alloc | apply Kd.R_drewN | apply Kd.R_drew));exact Kd.R_mono c0.out (fun _ hk=>hk.2)⟩,⟨by (with_reducible repeat (first | apply Kd.R_alloc | apply Kd.R_drewN | apply Kd.R_drew));exact i1.out⟩,⟨by (with_reducible repeat (first | refine blk_drewN ?_ _ | refine blk_drew ?_ | refine blk_alloc ?_ _));exact b0.out⟩,⟨bl HB⟩⟩
end Go.Proofs.Ytjohcjfmlhihbaa.G
namespace Go.Proofs.Ytjohcjfmlhihbaa.G
open Go.RowKit Go.Proofs.YtjohcjfmlhihbaaW.PrintWords Go.Proofs.YtjohcjfmlhihbaaW.PrintLast Go.Proofs.YtjohcjfmlhihbaaW.PrintMore
set_option maxHeartbeats 8000000
set_option maxRecDepth 100000
attribute [local go_sem] cond_true cond_false fld23_0 fld23_1 fld45_0 fld45_1 fld109_0 fld109_1 fld94_0 fld94_1 max2_int min2_int max_two min_two max_three min_three max_four min_four   -- for this text's walks alone
def shares_claims_halves_1.f (k:Nat) (a0:Int):Option (Int × Int):=(shares_frac.f k a0 2).bind fun b2=>(some (b2.1,b2.2))
theorem shares_claims_halves_1.mono:∀ a0 k,LeO (shares_claims_halves_1.f k a0) (shares_claims_halves_1.f (k + 1) a0):=by
 intro a0 k
 unfold shares_claims_halves_1.f
 repeat' first
   | (with_reducible exact shares_frac.mono _ _ _)
   | (with_reducible exact LeO.refl _)
   | (with_reducible exact LeO.none _)
   | (with_reducible refine LeO.ite ?_ ?_)
   | (with_reducible refine LeO.bind ?_ (fun _=>?_))
   | exact shares_frac.mono _ _ _
   | exact LeO.none _
   | refine LeO.ite ?_ ?_
   | refine LeO.bind ?_ (fun _=>?_)
theorem shares_claims_halves_1.calls (k:Nat) (a0:Int) (r1:Int) (r2:Int) (w:World) (h:shares_claims_halves_1.f k a0 = some (r1,r2)) :
  Calls Try.prog 130 #[.int .i64 a0] w fun e w'=>e = .returned (.agg #[.int .i64 r1,.int .i64 r2]) ∧ Below w.heap.size w w':=by
 have d3:=Try.underlying23
 have HB:=Aside0.mk (Below.refl w.heap.size w)
 have H:((shares_frac.f k a0 2).bind fun b2=>(some (b2.1,b2.2))) = some (r1,r2):=h
 clear h
 replace H:=Option.bind_eq_some_iff.mp H
 obtain ⟨⟨b3,b5⟩,A20,H⟩:=H
 replace H:(some (b3,b5)) = some (r1,r2):=H
 have A2:=Aside0.mk A20
 clear A20
 simp only [Option.some.injEq,Prod.mk.injEq] at H
 obtain ⟨rfl,rfl⟩:=H
 go_enter Try.func130,Try.ntmps130
 go_wp2_with (first | ((with_reducible refine gate_dst (N:=2) rfl ?_);refine box_event ?hg (N:=2) ?hd (cs:=#[.int .i64 0,.int .i64 0]) (t:=23) ?hr ?_;(case hd=>rfl);(case hg=>rfl);(case hr=>first | (go_simp;done) | (go_simp;rfl));intro b1 hg w3 hbox hb;have b6:=Aside0.mk (below_step (by repeat (first | (with_reducible first | exact HB.out | apply below_alloc | apply pw_below_drewN | apply below_drew1) | exact HB.out)) hb);have b7:=Aside0.mk (hbox);have d0:=Aside0.mk ((by rw [hg];exact (below_size (by repeat (first | (with_reducible first | exact HB.out | apply below_alloc | apply pw_below_drewN | apply below_drew1) | exact HB.out))):w.heap.size ≤ b1));have d1:=Aside0.mk ((by rw [hg];exact (below_size (by repeat (first | (with_reducible first | exact HB.out | apply below_alloc | apply pw_below_drewN | apply below_drew1) | exact HB.out))):w.heap.size ≤ b1));clear HB;have HB:=b6;have b0:=b7;have d2:=d0;have b4:=d1;clear b6 b7 d0 d1;clear hb hbox hg) | ((with_reducible refine gate_callee (f:=117) rfl ?_);refine goesL_ (some 4) rfl rfl Try.func117 (by kernel_rfl) rfl #[.int .i64 a0,.int .i64 2] rfl (by (try simp only [List.map_toArray,List.map_cons,List.map_nil]);first | done | rfl | (simp only [List.length_drop,List.length_take];rfl)) ?_;(with_reducible refine (shares_frac.calls k a0 2 b3 b5 _ A2.out).mono ?_);rintro e w4 ⟨rfl,hb⟩;refine ⟨_,rfl,?_⟩;have b6:=Aside0.mk (blk_below (g:=b1) (o:=.cells #[.int .i64 0,.int .i64 0] 23 (0,0)) (by (with_reducible repeat (first | refine blk_drewN ?_ _ | refine blk_drew ?_ | refine blk_alloc ?_ _));exact b0.out) hb);have b7:=Aside0.mk (below_step (by repeat (first | (with_reducible first | exact HB.out | apply below_alloc | apply pw_below_drewN | apply below_drew1 | refine below_set ?_ b4.out) | exact HB.out)) hb);clear b0;clear HB;have b0:=b6;have HB:=b7;clear b6 b7;(try clear hb);have b8:w4.cell? ⟨b1,0,none⟩ = some (.int .i64 0):=(blk_cell b0.out 0).trans rfl;have b9:w4.cell? ⟨b1,1,none⟩ = some (.int .i64 0):=(blk_cell b0.out 1).trans rfl;have c0:=blk_frozen b0.out 0;have c1:=blk_frozen b0.out 1))
 refine bodyPost_ret (results_cell_row rfl _ _ b1 23 #[.int .i64 b3,.int .i64 b5] (0,0) _ rfl (by (with_reducible repeat (first | refine blk_drewN ?_ _ | refine blk_drew ?_ | refine blk_alloc ?_ _));refine blk_put (cs:=#[.int .i64 b3,.int .i64 0]) ?_ 1 _ rfl;(with_reducible repeat (first | refine blk_drewN ?_ _ | refine blk_drew ?_ | refine blk_alloc ?_ _));refine blk_put (cs:=#[.int .i64 0,.int .i64 0]) ?_ 0 _ rfl;(with_reducible repeat (first | refine blk_drewN ?_ _ | refine blk_drew ?_ | refine blk_alloc ?_ _));exact b0.out) Try.underlying23 rfl (by kernel_rfl)) rfl ?_
 exact ⟨by first | rfl | (simp [errW_none,errW_some] <;> rfl) | (simp [*,errW_none,errW_some] <;> rfl),by repeat (first | (with_reducible first | exact HB.out | apply below_alloc | apply pw_below_drewN | apply below_drew1 | refine below_set ?_ b4.out) | exact HB.out)⟩
def each_halves.l0:Nat → List (S23) → List Int → Int → Int → Option ((List (S23)))
 | 0,_,_,_,_=>none
 | k + 1,x5,x9,x10,e7=>if e7 < x10 then (if 0 ≤ e7 then (if e7 < (x9.length:Int) then ((shares_claims_halves_1.f k (rd x9 e7)).bind fun d2=>(if x5.length < 8796093022208 then (each_halves.l0 k (x5 ++ [(⟨d2.1,d2.2⟩:S23)]) x9 x10 (wrap64 (e7 + 1))) else (none))) else (none)) else (none)) else (some x5)
def each_halves.f (k:Nat) (b0:List Int) (b9:Int):Option ((List (S23))):=each_halves.l0 k ([]:List (S23)) b0 (b0.length:Int) 0
theorem each_halves.mono_l:∀ k,(∀ y0 y1 y2 y3,LeO (each_halves.l0 k y0 y1 y2 y3) (each_halves.l0 (k + 1) y0 y1 y2 y3))
 | 0=>fun _ _ _ _ r h=>by simp [each_halves.l0] at h
 | k + 1=>by
  have e8:=each_halves.mono_l k
  intro y0 y1 y2 y3
  unfold each_halves.l0
  repeat' first
  | (with_reducible exact e8 _ _ _ _)
  | (with_reducible exact shares_claims_halves_1.mono _ _)
  | (with_reducible exact LeO.refl _)
  | (with_reducible exact LeO.none _)
  | (with_reducible refine LeO.ite ?_ ?_)
  | (with_reducible refine LeO.bind ?_ (fun _=>?_))
  | exact e8 _ _ _ _
  | exact shares_claims_halves_1.mono _ _
  | exact LeO.none _
  | refine LeO.ite ?_ ?_
  | refine LeO.bind ?_ (fun _=>?_)
theorem each_halves.mono:∀ a0 a1 k,LeO (each_halves.f k a0 a1) (each_halves.f (k + 1) a0 a1):=by
 intro a0 a1 k
 have e8:=each_halves.mono_l k
 unfold each_halves.f
 repeat' first
   | (with_reducible exact e8 _ _ _ _)
   | (with_reducible exact shares_claims_halves_1.mono _ _)
   | (with_reducible exact LeO.refl _)
   | (with_reducible exact LeO.none _)
   | (with_reducible refine LeO.ite ?_ ?_)
   | (with_reducible refine LeO.bind ?_ (fun _=>?_))
   | exact e8 _ _ _ _
   | exact shares_claims_halves_1.mono _ _
   | exact LeO.none _
   | refine LeO.ite ?_ ?_
   | refine LeO.bind ?_ (fun _=>?_)
theorem each_halves.calls (k:Nat) (d3:Option Addr) (d0:Nat) (b0:List Int) (b9:Int) (r:List (S23)) (w:World) (d6:Kd.C (Kd.int .i64) w d3 b0.length b0) (d7:b0.length ≤ d0) (h:each_halves.f k b0 b9 = some r) :
  Calls Try.prog 120 #[.agg #[.slice d3 b0.length d0,.int .i64 b9],.func (.func 130) #[] #[]] w fun e w'=>∃ h4:Value,e = .returned (h4) ∧ Kd.R k23 23 w' w.heap.size (fun _=>True) h4 r ∧ Below w.heap.size w w':=by
 have h8:=Try.underlying94
 have e9:=A_ d6
 have h5:=A_ d7
 clear d6 d7
 have HB:=A_ (Below.refl w.heap.size w)
 have H:(each_halves.l0 k ([]:List (S23)) b0 (b0.length:Int) 0) = some r:=h
 clear h
 have H':=A_ H
 clear H
 go_enter Try.func120,Try.ntmps120
 go_wp2_with (first | ((with_reducible refine gate_dst (N:=2) rfl ?_);refine box_event ?hg (N:=2) ?hd (cs:=#[.slice d3 b0.length d0,.int .i64 b9]) (t:=94) ?hr ?_;(case hd=>rfl);(case hg=>rfl);(case hr=>first | (go_simp;done) | (go_simp;rfl));intro b7 hg w2 hbox hb;have b2:=A_ hbox;have d9:=gw hg HB;have c0:=d9;replace HB:=bB HB hb;clear hb hbox hg;have e0:w2.cell? ⟨b7,0,none⟩ = some (.slice d3 b0.length d0):=cz b2 0;have e1:w2.cell? ⟨b7,1,none⟩ = some (.int .i64 b9):=cz b2 1;have e2:=blk_frozen b2.out 0;have e3:=blk_frozen b2.out 1))
 go_loopg [5,11] k (fun kq v5 h9 w'=>∃ (b8:List (S23)) (b1:Int),h9 = .int .i64 b1 ∧ Aside0 (each_halves.l0 kq b8 b0 (b0.length:Int) b1 = some r) ∧ Aside0 (kq ≤ k) ∧ Aside0 (Kd.R k23 23 w' w.heap.size (fun _=>True) v5 b8) ∧ Aside0 (w'.heap[b7]? = some (.cells #[(.slice d3 b0.length d0),.int .i64 b9] 94 (0,0))) ∧ Aside0 (Below w.heap.size w w'))
 case atStart=>exact ⟨(([]:List (S23))),(0),(by first | rfl | (simp;done) | (simp [*];done)),H',⟨Nat.le_refl _⟩,⟨by first | exact Kd.R_nil _ _ _ _ _ | exact Kd.N_nil _ _ _ _ _ | exact Kd.V_nil _ _ _ _ _ | exact Kd.Q_nil _ _ _ _ _ | exact Kd.S_nil _ _ _ _ _⟩,⟨by (with_reducible repeat (first | refine blk_drewN ?_ _ | refine blk_drew ?_ | refine blk_alloc ?_ _));exact b2.out⟩,⟨by repeat (first | (with_reducible first | exact HB.out | apply below_alloc | apply pw_below_drewN | apply below_drew1 | refine below_set ?_ c0.out) | exact HB.out)⟩⟩
 case round =>
  clear H'
  try clear c1
  try clear p2
  try clear e0
  try clear e1
  try clear e2
  try clear e3
  obtain ⟨b8,b1,rfl,HA,h6,d1,b2,HB⟩:=hrel
  cases gk with
  | zero=>exact absurd HA.out (by simp [each_halves.l0])
  | succ k1 =>
   have H:=HA.out
   clear HA
   simp only [each_halves.l0] at H
   by_cases c4:b1 < (b0.length:Int)
   case neg =>
    rw [if_neg c4] at H
    have h1:decide (b1 < (b0.length:Int)) = false:=decide_eq_false c4
    clear c4
    obtain rfl:=Option.some.inj H
    go_wp2
    go_ret
    exact ⟨_,by first | rfl | (simp [errW_none,errW_some] <;> rfl) | (simp [*,errW_none,errW_some] <;> rfl),by (with_reducible repeat (first | apply Kd.R_alloc | apply Kd.R_drewN | apply Kd.R_drew));exact d1.out,by repeat (first | (with_reducible first | exact HB.out | apply below_alloc | apply pw_below_drewN | apply below_drew1 | refine below_set ?_ c0.out) | exact HB.out)⟩
   rw [if_pos c4] at H
   have h1:decide (b1 < (b0.length:Int)) = true:=decide_eq_true c4
   clear c4
   by_cases c5:0 ≤ b1
   case neg =>
    rw [if_neg c5] at H
    exact absurd H (by simp)
   rw [if_pos c5] at H
   have i0:decide (0 ≤ b1) = true:=decide_eq_true c5
   clear c5
   by_cases c6:b1 < (b0.length:Int)
   case neg =>
    rw [if_neg c6] at H
    exact absurd H (by simp)
   rw [if_pos c6] at H
   have i1:decide (b1 < (b0.length:Int)) = true:=decide_eq_true c6
   clear c6
   replace H:=Option.bind_eq_some_iff.mp H
   obtain ⟨⟨b5,b6⟩,A70,H⟩:=H
   replace H:(if b8.length < 8796093022208 then (each_halves.l0 k1 (b8 ++ [(⟨b5,b6⟩:S23)]) b0 (b0.length:Int) (wrap64 (b1 + 1))) else (none)) = some r:=H
   have A7:=A_ A70
   clear A70
   by_cases c8:b8.length < 8796093022208
   case neg =>
    rw [if_neg c8] at H
    exact absurd H (by simp)
   rw [if_pos c8] at H
   have h2:=A_ c8
   clear c8
   obtain ⟨d8,b3⟩:∃ y_:List (S23),y_ = (b8 ++ [(⟨b5,b6⟩:S23)]):=⟨_,rfl⟩
   replace H:(each_halves.l0 k1 d8 b0 (b0.length:Int) (wrap64 (b1 + 1))) = some r:=by first | (rw [b3];with_reducible exact H) | (have h3:=(Option.bind_some _ _).symm.trans H;rw [b3];with_reducible exact h3) | (have h3:=(Option.bind_some _ _).symm.trans H;with_reducible exact h3) | with_reducible exact H | (rw [b3];exact H) | exact H
   have e4:=A_ b3
   clear b3
   have H':=A_ H
   clear H
   have d4:0 ≤ (b1:Int):=of_decide_eq_true (by first | (with_reducible assumption) | assumption)
   have d5:b1 < (b0.length:Int):=of_decide_eq_true (by first | (with_reducible assumption) | assumption)
   obtain ⟨e5,h0,b4⟩:=Kd.at_int e9.out b1 d4 d5
   cases h0
   replace b4:=(HB.out.cell (World.block_lt_of_cell? w _ b4)).trans b4
   replace d4:=eq_true d4
   replace d5:=eq_true d5
   go_wp2_with (first | (go_at_call 130;(with_reducible refine (shares_claims_halves_1.calls k1 (rd b0 b1) b5 b6 _ A7.out).mono ?_);rintro e w9 ⟨rfl,hb⟩;replace d1:=rB d1 hb;replace b2:=kB b2 hb;replace HB:=bB HB hb;(try clear hb)) | ((with_reducible refine gate_builtin (b:=.append) (xs:=#[.tmp 15,.tmp 19]) rfl ?_);at_builtin;refine Kd.R_append k23 (w0:=w) w.heap.size rfl (.tmp 15) (.tmp 19) 35 23 (.agg #[(.int .i64 0),(.int .i64 0)]) 16 rfl Try.underlying35 info23 rfl (by decide) (by omega) u5 b8 (⟨b5,b6⟩:S23) [.int .i64 b5,.int .i64 b6] (fun _=>True) (fun _=>False) rfl rfl ?aP (fun _ hk=>hk.elim) ?aF ?aO ?aB ?aS ?aL ?_;(case aP=>exact k23_mkM _ _ _ (⟨b5,b6⟩:S23));(case aB=>exact (bl HB));(case aF=>exact (fun _ _=>trivial));(case aO=>exact (rs d1));(case aS=>exact (below_size (bl HB)));(case aL=>have:=h2.out;omega);intro h7 i2 ho hb hg hat;rw [← e4.out] at ho;have e6:=A_ ho;replace b2:=A_ (blk_grown (g:=b7) (o:=.cells #[.slice (some e5) b0.length d0,.int .i64 b9] 94 (0,0)) (kb b2) hg (Kd.R_ne d1.out b2.out (by decide)));replace HB:=A_ hb;clear d1;clear ho hb hg hat))
   go_roundg k1
   case measure=>have:=h6.out;omega
   case rel=>exact ⟨(d8),(wrap64 (b1 + 1)),(by first | rfl | (simp;done) | (simp [*];done)),H',⟨by have:=h6.out;omega⟩,⟨by (with_reducible repeat (first | apply Kd.R_alloc | apply Kd.R_drewN | apply Kd.R_drew));exact e6.out⟩,⟨by (with_reducible repeat (first | refine blk_drewN ?_ _ | refine blk_drew ?_ | refine blk_alloc ?_ _));exact b2.out⟩,⟨by repeat (first | (with_reducible first | exact HB.out | apply below_alloc | apply pw_below_drewN | apply below_drew1 | refine below_set ?_ c0.out) | exact HB.out)⟩⟩
def shares_claims_halves.f (k:Nat) (b1:List Int) (b3:Int):Option ((List (S23))):=(each_halves.f k b1 b3).bind fun b4=>(some b4)
theorem shares_claims_halves.mono:∀ a0 a1 k,LeO (shares_claims_halves.f k a0 a1) (shares_claims_halves.f (k + 1) a0 a1):=by
 intro a0 a1 k
 unfold shares_claims_halves.f
 repeat' first
   | (with_reducible exact each_halves.mono _ _ _)
   | (with_reducible exact LeO.refl _)
   | (with_reducible exact LeO.none _)
   | (with_reducible refine LeO.ite ?_ ?_)
   | (with_reducible refine LeO.bind ?_ (fun _=>?_))
   | exact each_halves.mono _ _ _
   | exact LeO.none _
   | refine LeO.ite ?_ ?_
   | refine LeO.bind ?_ (fun _=>?_)
theorem shares_claims_halves.calls (k:Nat) (b6:Option Addr) (b7:Nat) (b1:List Int) (b3:Int) (r:List (S23)) (w:World) (b8:Kd.C (Kd.int .i64) w b6 b1.length b1) (b9:b1.length ≤ b7) (h:shares_claims_halves.f k b1 b3 = some r) :
  Calls Try.prog 123 #[.agg #[.slice b6 b1.length b7,.int .i64 b3]] w fun e w'=>∃ d9:Value,e = .returned (d9) ∧ Kd.R k23 23 w' w.heap.size (fun _=>True) d9 r ∧ Below w.heap.size w w':=by
 have e4:=Try.underlying94
 have c1:=Aside0.mk b8
 have d0:=Aside0.mk b9
 clear b8 b9
 have HB:=Aside0.mk (Below.refl w.heap.size w)
 have H:((each_halves.f k b1 b3).bind fun b4=>(some b4)) = some r:=h
 clear h
 replace H:=Option.bind_eq_some_iff.mp H
 obtain ⟨b4,e0,H⟩:=H
 replace H:(some b4) = some r:=H
 have A2:=Aside0.mk e0
 clear e0
 obtain rfl:=Option.some.inj H
 go_enter Try.func123,Try.ntmps123
 go_wp2_with (first | ((with_reducible refine gate_dst (N:=1) rfl ?_);refine box_event ?hg (N:=1) ?hd (cs:=#[.slice b6 b1.length b7,.int .i64 b3]) (t:=94) ?hr ?_;(case hd=>rfl);(case hg=>rfl);(case hr=>first | (go_simp;done) | (go_simp;rfl));intro b2 hg w3 hbox hb;have d1:=Aside0.mk (below_step (by repeat (first | (with_reducible first | exact HB.out | apply below_alloc | apply pw_below_drewN | apply below_drew1) | exact HB.out)) hb);have d2:=Aside0.mk (hbox);have d3:=Aside0.mk ((by rw [hg];exact (below_size (by repeat (first | (with_reducible first | exact HB.out | apply below_alloc | apply pw_below_drewN | apply below_drew1) | exact HB.out))):w.heap.size ≤ b2));have e1:=Aside0.mk ((by rw [hg];exact (below_size (by repeat (first | (with_reducible first | exact HB.out | apply below_alloc | apply pw_below_drewN | apply below_drew1) | exact HB.out))):w.heap.size ≤ b2));clear HB;have HB:=d1;have b0:=d2;have d4:=d3;have b5:=e1;clear d1 d2 d3 e1;clear hb hbox hg;have d5:w3.cell? ⟨b2,0,none⟩ = some (.slice b6 b1.length b7):=(blk_cell b0.out 0).trans rfl;have d6:w3.cell? ⟨b2,1,none⟩ = some (.int .i64 b3):=(blk_cell b0.out 1).trans rfl;have d7:=blk_frozen b0.out 0;have d8:=blk_frozen b0.out 1) | ((with_reducible refine gate_callee (f:=120) rfl ?_);refine goesL_ (some 4) rfl rfl Try.func120 (by kernel_rfl) rfl #[.agg #[.slice b6 b1.length b7,.int .i64 b3],.func (.func 130) #[] #[]] rfl (by (try simp only [List.map_toArray,List.map_cons,List.map_nil]);first | done | rfl | (simp only [List.length_drop,List.length_take];rfl)) ?_;(with_reducible refine (each_halves.calls k _ _ b1 b3 b4 _ ?side1 ?side2 A2.out).mono ?_);(case side1=>repeat (first | exact (Kd.C_below c1.out HB.out) | (with_reducible refine Kd.C_alloc ?_ _) | (with_reducible refine Kd.C_drewN ?_ _) | (with_reducible refine Kd.C_drew ?_)));(case side2=>exact d0.out);rintro e w5 ⟨e2,rfl,e3,hb⟩;refine ⟨_,rfl,?_⟩;have d1:=Aside0.mk (Kd.R_lower e3 (below_size (by repeat (first | (with_reducible first | exact HB.out | apply below_alloc | apply pw_below_drewN | apply below_drew1 | refine below_set ?_ b5.out) | exact HB.out))));have d2:=Aside0.mk (blk_below (g:=b2) (o:=.cells #[.slice b6 b1.length b7,.int .i64 b3] 94 (0,0)) (by (with_reducible repeat (first | refine blk_drewN ?_ _ | refine blk_drew ?_ | refine blk_alloc ?_ _));exact b0.out) hb);have d3:=Aside0.mk (below_step (by repeat (first | (with_reducible first | exact HB.out | apply below_alloc | apply pw_below_drewN | apply below_drew1 | refine below_set ?_ b5.out) | exact HB.out)) hb);clear b0;clear HB;have c0:=d1;have b0:=d2;have HB:=d3;clear d1 d2 d3;(try clear hb);(try clear e3)))
 go_ret
 exact ⟨_,by first | rfl | (simp [errW_none,errW_some] <;> rfl) | (simp [*,errW_none,errW_some] <;> rfl),by (with_reducible repeat (first | apply Kd.R_alloc | apply Kd.R_drewN | apply Kd.R_drew));exact c0.out,by repeat (first | (with_reducible first | exact HB.out | apply below_alloc | apply pw_below_drewN | apply below_drew1 | refine below_set ?_ b5.out) | exact HB.out)⟩
end Go.Proofs.Ytjohcjfmlhihbaa.G
namespace Go.Proofs.Ytjohcjfmlhihbaa.G
open Go.RowKit Go.Proofs.YtjohcjfmlhihbaaW.PrintWords Go.Proofs.YtjohcjfmlhihbaaW.PrintLast Go.Proofs.YtjohcjfmlhihbaaW.PrintMore
set_option maxHeartbeats 8000000
set_option maxRecDepth 100000
attribute [local go_sem] cond_true cond_false fld23_0 fld23_1 fld45_0 fld45_1 fld109_0 fld109_1 fld94_0 fld94_1 max2_int min2_int max_two min_two max_three min_three max_four min_four
def shares_claims_talmud.l0:Nat → List (S23) → List (S23) → List Int → Int → Int → Option ((List (S23)))
 | 0,_,_,_,_,_=>none
 | k + 1,x3,x4,n3,x32,i1=>if i1 < x32 then (if 0 ≤ i1 then (if i1 < (n3.length:Int) then ((shares_whole.f (rd n3 i1)).bind fun e7=>(if i1 < (x3.length:Int) then ((shares_minus.f k e7.1 e7.2 ((rd_T23 x3 i1).f0) ((rd_T23 x3 i1).f1)).bind fun e8=>(if x4.length < 8796093022208 then (shares_claims_talmud.l0 k x3 (x4 ++ [(⟨e8.1,e8.2⟩:S23)]) n3 x32 (wrap64 (i1 + 1))) else (none))) else (none))) else (none)) else (none)) else (some x4)
def shares_claims_talmud.f (k:Nat) (b1:List Int) (b2:Int):Option ((List (S23))):=(shares_total.f k b1).bind fun d5=>(if (wrap64 (2 * b2)) ≤ d5 then ((shares_claims_halves.f k b1 b2).bind fun d2=>((shares_whole.f b2).bind fun b7=>((shares_equal.f k d2 b7.1 b7.2).bind fun d3=>(some d3)))) else ((shares_claims_halves.f k b1 b2).bind fun b9=>((shares_total.f k b1).bind fun b8=>((shares_whole.f (wrap64 (b8 - b2))).bind fun b5=>((shares_equal.f k b9 b5.1 b5.2).bind fun b3=>(shares_claims_talmud.l0 k b3 ([]:List (S23)) b1 (b1.length:Int) 0))))))
theorem shares_claims_talmud.mono_l:∀ k,(∀ y0 y1 y2 y3 y4,LeO (shares_claims_talmud.l0 k y0 y1 y2 y3 y4) (shares_claims_talmud.l0 (k + 1) y0 y1 y2 y3 y4))
 | 0=>fun _ _ _ _ _ r h=>by simp [shares_claims_talmud.l0] at h
 | k + 1=>by
  have n4:=shares_claims_talmud.mono_l k
  intro y0 y1 y2 y3 y4
  unfold shares_claims_talmud.l0
  repeat' first
  | (with_reducible first | exact n4 _ _ _ _ _ | exact shares_claims_halves.mono _ _ _ | exact shares_equal.mono _ _ _ _ | exact shares_minus.mono _ _ _ _ _ | exact shares_total.mono _ _ | exact LeO.refl _ | exact LeO.none _ | refine LeO.ite ?_ ?_ | refine LeO.bind ?_ (fun _=>?_))
  | exact LeO.none _ | refine LeO.ite ?_ ?_ | refine LeO.bind ?_ (fun _=>?_)
theorem shares_claims_talmud.mono:∀ a0 a1 k,LeO (shares_claims_talmud.f k a0 a1) (shares_claims_talmud.f (k + 1) a0 a1):=by
 intro a0 a1 k
 have n4:=shares_claims_talmud.mono_l k
 unfold shares_claims_talmud.f
 repeat' first
   | (with_reducible first | exact n4 _ _ _ _ _ | exact shares_claims_halves.mono _ _ _ | exact shares_equal.mono _ _ _ _ | exact shares_minus.mono _ _ _ _ _ | exact shares_total.mono _ _ | exact LeO.refl _ | exact LeO.none _ | refine LeO.ite ?_ ?_ | refine LeO.bind ?_ (fun _=>?_))
   | exact LeO.none _ | refine LeO.ite ?_ ?_ | refine LeO.bind ?_ (fun _=>?_)
def shares_claims_talmud.T3:Bool × List (List Nat × List Nat):=(true,[([],[]),([0],[0]),([],[]),([2],[2]),([3,1],[3]),([],[]),([5],[5]),([4,6],[4,6]),([7,4],[7]),([1,8,8],[1,8]),([9,9,0,1,2,3,4,5,6,7,8,9],[9])])
def shares_claims_talmud.B3:List Nat:=[0,1,0,4,15,0,32,127,255,511,1023]
theorem shares_claims_talmud.tab3:rtab .any (opsOf Try.f100 3) = shares_claims_talmud.T3:=by kernel_rfl
theorem shares_claims_talmud.bits3:waitsOk shares_claims_talmud.T3.2 shares_claims_talmud.B3 = true:=by kernel_rfl
def shares_claims_talmud.T8:Bool × List (List Nat × List Nat):=(true,[([],[]),([],[]),([1],[1]),([],[]),([],[]),([3,4],[3,4]),([5],[5]),([2,6,2],[2,6]),([7],[7]),([0,8,7],[0,8]),([9,9,0,1,2,3,4,5,6,7,8,9],[0,9])])
def shares_claims_talmud.B8:List Nat:=[0,0,2,0,0,24,56,126,254,511,1023]
theorem shares_claims_talmud.tab8:rtab .any (opsOf Try.f100 8) = shares_claims_talmud.T8:=by kernel_rfl
theorem shares_claims_talmud.bits8:waitsOk shares_claims_talmud.T8.2 shares_claims_talmud.B8 = true:=by kernel_rfl
theorem shares_claims_talmud.calls (k:Nat) (c0:Option Addr) (c1:Nat) (b1:List Int) (b2:Int) (r:List (S23)) (w:World) (i2:Kd.C (Kd.int .i64) w c0 b1.length b1) (i3:b1.length ≤ c1) (h:shares_claims_talmud.f k b1 b2 = some r) :
  Calls Try.prog 100 #[.agg #[.slice c0 b1.length c1,.int .i64 b2]] w fun e w'=>∃ o4:Value,e = .returned (o4) ∧ Kd.R k23 23 w' w.heap.size (fun _=>True) o4 r ∧ Below w.heap.size w w':=by
 have q1:=Try.underlying94
 have q2:=Try.underlying23
 have d8:=A_ i2
 have e0:=A_ i3
 clear i2 i3
 have HB:=A_ (Below.refl w.heap.size w)
 have H:((shares_total.f k b1).bind fun d5=>(if (wrap64 (2 * b2)) ≤ d5 then ((shares_claims_halves.f k b1 b2).bind fun d2=>((shares_whole.f b2).bind fun b7=>((shares_equal.f k d2 b7.1 b7.2).bind fun d3=>(some d3)))) else ((shares_claims_halves.f k b1 b2).bind fun b9=>((shares_total.f k b1).bind fun b8=>((shares_whole.f (wrap64 (b8 - b2))).bind fun b5=>((shares_equal.f k b9 b5.1 b5.2).bind fun b3=>(shares_claims_talmud.l0 k b3 ([]:List (S23)) b1 (b1.length:Int) 0))))))) = some r:=h
 clear h
 replace H:=Option.bind_eq_some_iff.mp H
 obtain ⟨d5,o5,H⟩:=H
 replace H:(if (wrap64 (2 * b2)) ≤ d5 then ((shares_claims_halves.f k b1 b2).bind fun d2=>((shares_whole.f b2).bind fun b7=>((shares_equal.f k d2 b7.1 b7.2).bind fun d3=>(some d3)))) else ((shares_claims_halves.f k b1 b2).bind fun b9=>((shares_total.f k b1).bind fun b8=>((shares_whole.f (wrap64 (b8 - b2))).bind fun b5=>((shares_equal.f k b9 b5.1 b5.2).bind fun b3=>(shares_claims_talmud.l0 k b3 ([]:List (S23)) b1 (b1.length:Int) 0)))))) = some r:=H
 have A2:=A_ o5
 clear o5
 by_cases c3:(wrap64 (2 * b2)) ≤ d5
 ·rw [if_pos c3] at H
  have n5:=decide_eq_true c3
  clear c3
  replace H:=Option.bind_eq_some_iff.mp H
  obtain ⟨d2,o6,H⟩:=H
  replace H:((shares_whole.f b2).bind fun b7=>((shares_equal.f k d2 b7.1 b7.2).bind fun d3=>(some d3))) = some r:=H
  have A4:=A_ o6
  clear o6
  replace H:=Option.bind_eq_some_iff.mp H
  obtain ⟨⟨e9,h0⟩,A50,H⟩:=H
  dsimp only at H
  have A5:=A_ A50
  clear A50
  replace H:=Option.bind_eq_some_iff.mp H
  obtain ⟨d3,o7,H⟩:=H
  replace H:(some d3) = some r:=H
  have A6:=A_ o7
  clear o7
  obtain rfl:=Option.some.inj H
  go_enter Try.func100,Try.ntmps100
  try go_wp2_with (first | ((with_reducible refine gate_dst (N:=1) rfl ?_);refine bx 1 #[.slice c0 b1.length c1,.int .i64 b2] 94 ?_;intro b6 hg w7 hbox hb;have b0:=A_ hbox;have e5:=gw hg HB;have i8:=e5;replace HB:=bB HB hb;clear hb hbox hg))
  replace b0:=kD b0
  replace HB:=bD HB
  refine start_ (n:=7) (S:=fun w'=>w'.cell? ⟨b6,0,none⟩ = some (.slice c0 b1.length c1) ∧ w'.cell? ⟨b6,1,none⟩ = some (.int .i64 b2)) (ds:=[]) (ba 7 0) (by kernel_rfl) rfl rfl ⟨cz b0 0,cz b0 1⟩ (fun hHeld=>?_)
  generalize w7.drew = w8 at b0 HB hHeld ⊢
  refine pr 0 7 1 ?_
  refine pr 3 10 9 ?_
  refine tr 1 8 11 hHeld ?_
  refine pr 2 9 15 ?_
  refine tr 4 11 31 hHeld ?_
  refine os 5 12 63 (fun K hK=>?_)
  refine gq Try.func93 #[.slice c0 b1.length c1] ?_
  with_reducible refine (shares_total.calls k _ _ b1 d5 _ ?side1 ?side2 A2.out).mono ?_
  (case side1=>exact cB d8 HB)
  (case side2=>exact e0.out)
  rintro e w' ⟨rfl,⟨nd,rfl⟩⟩
  refine ⟨_,rfl,?_⟩
  refine hz hK (fun hHeld=>?_)
  clear hK K
  refine nq 12 ?_
  refine pr 6 13 127 ?_
  refine done_ (by kernel_rfl) ?_
  try go_wp2
  (try (rw [drewN_self w8];generalize hq_:World.drewN w8 _ = w8;replace b0:Aside0 (w8.heap[b6]? = some (.cells #[.slice c0 b1.length c1,.int .i64 b2] 94 (0,0))):=⟨by rw [← hq_];exact b0.out⟩;replace HB:Aside0 (Below w.heap.size w w8):=⟨by rw [← hq_];exact (bl HB)⟩;clear hq_))
  replace b0:=kD b0
  replace HB:=bD HB
  refine start_ (n:=7) (S:=fun w'=>w'.cell? ⟨b6,0,none⟩ = some (.slice c0 b1.length c1) ∧ w'.cell? ⟨b6,1,none⟩ = some (.int .i64 b2)) (ds:=[]) (ba 7 0) (by kernel_rfl) rfl rfl ⟨cz b0 0,cz b0 1⟩ (fun hHeld=>?_)
  generalize w8.drew = w9 at b0 HB hHeld ⊢
  refine pr 2 16 4 ?_
  refine tr 0 14 5 hHeld ?_
  refine tr 3 17 13 hHeld ?_
  refine os 1 15 15 (fun K hK=>?_)
  refine gq Try.func123 #[.agg #[.slice c0 b1.length c1,.int .i64 b2]] ?_
  with_reducible refine (shares_claims_halves.calls k _ _ b1 b2 d2 _ ?side1 ?side2 A4.out).mono ?_
  (case side1=>exact cB d8 HB)
  (case side2=>exact e0.out)
  rintro e r2 ⟨o8,rfl,i0,hb⟩
  refine ⟨_,rfl,?_⟩
  have d0:=A_ (Kd.R_lower i0 (below_size (bl HB)))
  replace b0:=kB b0 hb
  replace HB:=bB HB hb
  (try clear hb)
  refine hz hK (fun hHeld=>?_)
  clear hK K
  refine nq 15 ?_
  refine os 4 18 31 (fun K hK=>?_)
  refine gq Try.func64 #[.int .i64 b2] ?_
  with_reducible refine (shares_whole.calls b2 e9 h0 _ A5.out).mono ?_
  rintro e r3 ⟨rfl,hb⟩
  refine ⟨_,rfl,?_⟩
  replace d0:=rB d0 hb
  replace b0:=kB b0 hb
  replace HB:=bB HB hb
  (try clear hb)
  obtain ⟨n6,n7,l6⟩:=Kd.R_slice d0.out
  (first | subst l6 | (injection l6 with i4 l7 i5;have l8:=i4.symm;have l9:=i5.symm;clear i4 l7 i5;subst l8;subst l9))
  refine hz hK (fun hHeld=>?_)
  clear hK K
  refine nq 18 ?_
  refine os 5 19 63 (fun K hK=>?_)
  refine gq Try.func122 #[.slice n6 d2.length n7,.agg #[.int .i64 e9,.int .i64 h0]] ?_
  with_reducible refine (shares_equal.calls k _ _ d2 e9 h0 d3 _ ?side1 ?side2 A6.out).mono ?_
  (case side1=>repeat (first | exact (Kd.R_reads' d0.out).2.2 | (with_reducible refine Kd.C_alloc ?_ _) | (with_reducible refine Kd.C_drewN ?_ _) | (with_reducible refine Kd.C_drew ?_)))
  (case side2=>exact (Kd.R_reads' d0.out).2.1)
  rintro e r4 ⟨o9,rfl,i0,hb⟩
  refine ⟨_,rfl,?_⟩
  have i9:=A_ (Kd.R_lower (Kd.R_new' i0 (Kd.R_lt d0.out)) (below_size HB.out))
  replace d0:=A_ (Kd.R_elder' d0.out (Kd.R_base i0) hb)
  replace b0:=kB b0 hb
  replace HB:=bB HB hb
  (try clear hb)
  refine hz hK (fun hHeld=>?_)
  clear hK K
  refine nq 19 ?_
  refine pr 6 2 127 ?_
  refine done_ (by kernel_rfl) ?_
  try go_wp2
  go_ret
  exact ⟨_,rfl,by exact Kd.R_mono i9.out (fun _ hk=>trivial),bl HB⟩
 rw [if_neg c3] at H
 have n5:=decide_eq_false c3
 clear c3
 replace H:=Option.bind_eq_some_iff.mp H
 obtain ⟨b9,m0,H⟩:=H
 replace H:((shares_total.f k b1).bind fun b8=>((shares_whole.f (wrap64 (b8 - b2))).bind fun b5=>((shares_equal.f k b9 b5.1 b5.2).bind fun b3=>(shares_claims_talmud.l0 k b3 ([]:List (S23)) b1 (b1.length:Int) 0)))) = some r:=H
 have q3:=A_ m0
 clear m0
 replace H:=Option.bind_eq_some_iff.mp H
 obtain ⟨b8,m1,H⟩:=H
 replace H:((shares_whole.f (wrap64 (b8 - b2))).bind fun b5=>((shares_equal.f k b9 b5.1 b5.2).bind fun b3=>(shares_claims_talmud.l0 k b3 ([]:List (S23)) b1 (b1.length:Int) 0))) = some r:=H
 have q4:=A_ m1
 clear m1
 replace H:=Option.bind_eq_some_iff.mp H
 obtain ⟨⟨h1,h2⟩,A160,H⟩:=H
 dsimp only at H
 have q5:=A_ A160
 clear A160
 replace H:=Option.bind_eq_some_iff.mp H
 obtain ⟨b3,m2,H⟩:=H
 replace H:(shares_claims_talmud.l0 k b3 ([]:List (S23)) b1 (b1.length:Int) 0) = some r:=H
 have q6:=A_ m2
 clear m2
 have H':=A_ H
 clear H
 go_enter Try.func100,Try.ntmps100
 try go_wp2_with (first | ((with_reducible refine gate_dst (N:=1) rfl ?_);refine bx 1 #[.slice c0 b1.length c1,.int .i64 b2] 94 ?_;intro b6 hg q7 hbox hb;have b0:=A_ hbox;have e5:=gw hg HB;have i8:=e5;replace HB:=bB HB hb;clear hb hbox hg))
 replace b0:=kD b0
 replace HB:=bD HB
 refine start_ (n:=7) (S:=fun w'=>w'.cell? ⟨b6,0,none⟩ = some (.slice c0 b1.length c1) ∧ w'.cell? ⟨b6,1,none⟩ = some (.int .i64 b2)) (ds:=[]) (ba 7 0) (by kernel_rfl) rfl rfl ⟨cz b0 0,cz b0 1⟩ (fun hHeld=>?_)
 generalize q7.drew = j9 at b0 HB hHeld ⊢
 refine pr 0 7 1 ?_
 refine pr 3 10 9 ?_
 refine tr 1 8 11 hHeld ?_
 refine pr 2 9 15 ?_
 refine tr 4 11 31 hHeld ?_
 refine os 5 12 63 (fun K hK=>?_)
 refine gq Try.func93 #[.slice c0 b1.length c1] ?_
 with_reducible refine (shares_total.calls k _ _ b1 d5 _ ?side1 ?side2 A2.out).mono ?_
 (case side1=>exact cB d8 HB)
 (case side2=>exact e0.out)
 rintro e w' ⟨rfl,⟨nd,rfl⟩⟩
 refine ⟨_,rfl,?_⟩
 refine hz hK (fun hHeld=>?_)
 clear hK K
 refine nq 12 ?_
 refine pr 6 13 127 ?_
 refine done_ (by kernel_rfl) ?_
 try go_wp2
 (try (rw [drewN_self j9];generalize hq_:World.drewN j9 _ = j9;replace b0:Aside0 (j9.heap[b6]? = some (.cells #[.slice c0 b1.length c1,.int .i64 b2] 94 (0,0))):=⟨by rw [← hq_];exact b0.out⟩;replace HB:Aside0 (Below w.heap.size w j9):=⟨by rw [← hq_];exact (bl HB)⟩;clear hq_))
 replace b0:=kD b0
 replace HB:=bD HB
 refine st 11 (fun w'=>w'.cell? ⟨b6,0,none⟩ = some (.slice c0 b1.length c1) ∧ w'.cell? ⟨b6,1,none⟩ = some (.int .i64 b2)) [] shares_claims_talmud.tab3 shares_claims_talmud.bits3 (fun hHeld HT_ HW_=>?_)
 generalize j9.drew = r5 at b0 HB hHeld ⊢
 refine pq 2 22 4 HT_ ?_
 refine pq 5 25 36 HT_ ?_
 refine tq 0 20 37 HT_ HW_ hHeld ?_
 refine tq 3 23 45 HT_ HW_ hHeld ?_
 refine tq 6 26 109 HT_ HW_ hHeld ?_
 refine oq 1 21 111 HT_ (fun K hK=>?_)
 refine gq Try.func123 #[.agg #[.slice c0 b1.length c1,.int .i64 b2]] ?_
 with_reducible refine (shares_claims_halves.calls k _ _ b1 b2 b9 _ ?side1 ?side2 q3.out).mono ?_
 (case side1=>exact cB d8 HB)
 (case side2=>exact e0.out)
 rintro e r6 ⟨p0,rfl,i0,hb⟩
 refine ⟨_,rfl,?_⟩
 have d1:=A_ (Kd.R_lower i0 (below_size (bl HB)))
 replace b0:=kB b0 hb
 replace HB:=bB HB hb
 (try clear hb)
 refine hz hK (fun hHeld=>?_)
 clear hK K
 refine nq 21 ?_
 refine oq 4 24 127 HT_ (fun K hK=>?_)
 refine gq Try.func93 #[.slice c0 b1.length c1] ?_
 with_reducible refine (shares_total.calls k _ _ b1 b8 _ ?side1 ?side2 q4.out).mono ?_
 (case side1=>exact cB d8 HB)
 (case side2=>exact e0.out)
 rintro e w' ⟨rfl,⟨nd,rfl⟩⟩
 refine ⟨_,rfl,?_⟩
 refine hz hK (fun hHeld=>?_)
 clear hK K
 refine nq 24 ?_
 refine pq 7 27 255 HT_ ?_
 refine oq 8 28 511 HT_ (fun K hK=>?_)
 refine gq Try.func64 #[.int .i64 (wrap64 (b8 - b2))] ?_
 with_reducible refine (shares_whole.calls (wrap64 (b8 - b2)) h1 h2 _ q5.out).mono ?_
 rintro e r7 ⟨rfl,hb⟩
 refine ⟨_,rfl,?_⟩
 replace d1:=rB d1 hb
 replace b0:=kB b0 hb
 replace HB:=bB HB hb
 (try clear hb)
 obtain ⟨n8,n9,m3⟩:=Kd.R_slice d1.out
 (first | subst m3 | (injection m3 with i4 l7 i5;have l8:=i4.symm;have l9:=i5.symm;clear i4 l7 i5;subst l8;subst l9))
 refine hz hK (fun hHeld=>?_)
 clear hK K
 refine nq 28 ?_
 refine oq 9 29 1023 HT_ (fun K hK=>?_)
 refine gq Try.func122 #[.slice n8 b9.length n9,.agg #[.int .i64 h1,.int .i64 h2]] ?_
 with_reducible refine (shares_equal.calls k _ _ b9 h1 h2 b3 _ ?side1 ?side2 q6.out).mono ?_
 (case side1=>repeat (first | exact (Kd.R_reads' d1.out).2.2 | (with_reducible refine Kd.C_alloc ?_ _) | (with_reducible refine Kd.C_drewN ?_ _) | (with_reducible refine Kd.C_drew ?_)))
 (case side2=>exact (Kd.R_reads' d1.out).2.1)
 rintro e p1 ⟨i6,rfl,i0,hb⟩
 refine ⟨_,rfl,?_⟩
 have j5:=A_ (Kd.R_lower (Kd.R_new' i0 (Kd.R_lt d1.out)) (below_size HB.out))
 replace d1:=A_ (Kd.R_elder' d1.out (Kd.R_base i0) hb)
 replace b0:=kB b0 hb
 replace HB:=bB HB hb
 (try clear hb)
 refine hz hK (fun hHeld=>?_)
 clear hK K
 refine nq 29 ?_
 refine pq 10 3 2047 HT_ ?_
 refine done_ (done_of HT_.out (by kernel_rfl)) ?_
 have m9:p1.cell? ⟨b6,0,none⟩ = some (.slice c0 b1.length c1):=cz b0 0
 have n0:p1.cell? ⟨b6,1,none⟩ = some (.int .i64 b2):=cz b0 1
 have n1:=blk_frozen b0.out 0
 have n2:=blk_frozen b0.out 1
 try go_wp2
 go_loopg [4,33] k (fun kq v4 q8 w'=>∃ (h3:List (S23)) (b4:Int),q8 = .int .i64 b4 ∧ Aside0 (shares_claims_talmud.l0 kq b3 h3 b1 (b1.length:Int) b4 = some r) ∧ Aside0 (kq ≤ k) ∧ Aside0 (Kd.R k23 23 w' w.heap.size (fun k_=>some k_ ≠ (v4:Value).ownBlock) i6 b3) ∧ Aside0 (Kd.R k23 23 w' w.heap.size (fun k_=>some k_ ≠ (i6:Value).ownBlock) v4 h3) ∧ Aside0 (w'.heap[b6]? = some (.cells #[(.slice c0 b1.length c1),.int .i64 b2] 94 (0,0))) ∧ Aside0 (Below w.heap.size w w'))
 case atStart=>exact ⟨(([]:List (S23))),(0),rfl,H',⟨Nat.le_refl _⟩,⟨by exact Kd.R_mono j5.out (fun _ hk=>(by simp [Value.ownBlock]))⟩,⟨by first | exact Kd.R_nil _ _ _ _ _ | exact Kd.N_nil _ _ _ _ _ | exact Kd.V_nil _ _ _ _ _ | exact Kd.Q_nil _ _ _ _ _ | exact Kd.S_nil _ _ _ _ _⟩,⟨by exact b0.out⟩,⟨bl HB⟩⟩
 case round =>
  clear H'
  obtain ⟨h3,b4,rfl,HA,p2,d4,d6,b0,HB⟩:=hrel
  cases gk with
  | zero=>exact absurd HA.out (by simp [shares_claims_talmud.l0])
  | succ k1 =>
   have H:=HA.out
   clear HA
   simp only [shares_claims_talmud.l0] at H
   by_cases l5:b4 < (b1.length:Int)
   case neg =>
    rw [if_neg l5] at H
    have m4:=decide_eq_false l5
    clear l5
    obtain rfl:=Option.some.inj H
    go_wp2
    go_ret
    exact ⟨_,rfl,by exact Kd.R_mono d6.out (fun _ hk=>trivial),bl HB⟩
   rw [if_pos l5] at H
   have m4:=decide_eq_true l5
   clear l5
   replace H:=gd H
   obtain ⟨p3,H⟩:=H
   have p4:=decide_eq_true p3
   clear p3
   replace H:=gd H
   obtain ⟨p5,H⟩:=H
   have p6:=decide_eq_true p5
   clear p5
   replace H:=Option.bind_eq_some_iff.mp H
   obtain ⟨⟨h4,h5⟩,A290,H⟩:=H
   dsimp only at H
   have q9:=A_ A290
   clear A290
   replace H:=gd H
   obtain ⟨p7,H⟩:=H
   have p8:=decide_eq_true p7
   clear p7
   replace H:=Option.bind_eq_some_iff.mp H
   obtain ⟨⟨e1,e2⟩,A310,H⟩:=H
   dsimp only at H
   have r0:=A_ A310
   clear A310
   replace H:=gd H
   obtain ⟨p9,H⟩:=H
   have m5:=A_ p9
   clear p9
   obtain ⟨i7,e6⟩:∃ y_:List (S23),y_ = (h3 ++ [(⟨e1,e2⟩:S23)]):=⟨_,rfl⟩
   replace H:(shares_claims_talmud.l0 k1 b3 i7 b1 (b1.length:Int) (wrap64 (b4 + 1))) = some r:=by rw [e6];exact H
   have j7:=A_ e6
   clear e6
   have H':=A_ H
   clear H
   have h6:0 ≤ (b4:Int):=of_decide_eq_true (by assumption)
   have h7:b4 < (b1.length:Int):=of_decide_eq_true (by assumption)
   obtain ⟨o0,m6,d7⟩:=Kd.at_int d8.out b4 h6 h7
   cases m6
   replace d7:=(HB.out.cell (World.block_lt_of_cell? w _ d7)).trans d7
   replace h6:=eq_true h6
   replace h7:=eq_true h7
   try go_wp2
   replace d4:=rD d4
   replace d6:=rD d6
   replace b0:=kD b0
   replace HB:=bD HB
   obtain ⟨r1,o1,m7⟩:=Kd.R_slice d4.out
   (first | subst m7 | (injection m7 with i4 l7 i5;have l8:=i4.symm;have l9:=i5.symm;clear i4 l7 i5;subst l8;subst l9))
   have h8:0 ≤ (b4:Int):=of_decide_eq_true (by assumption)
   have h9:b4 < (b3.length:Int):=of_decide_eq_true (by assumption)
   obtain ⟨d9,m8,e3,e4⟩:=at_T23 (Kd.R_reads' d4.out).2.2 b4 h8 h9
   cases m8
   replace h8:=eq_true h8
   replace h9:=eq_true h9
   refine start_ (n:=11) (S:=fun w'=>w'.cell? (d9.add ((b4).toNat * 2)) = some (.int .i64 ((rd_T23 b3 b4).f0)) ∧ w'.cell? ⟨(d9.add ((b4).toNat * 2)).block,(d9.add ((b4).toNat * 2)).off + 1,none⟩ = some (.int .i64 ((rd_T23 b3 b4).f1))) (ds:=[8,9]) (ba 11 0) (by kernel_rfl) rfl rfl ⟨e3,e4⟩ (fun hHeld=>?_);refine with_tabW shares_claims_talmud.tab8 shares_claims_talmud.bits8 (fun HT_ HW_=>?_)
   generalize wr.drew = r8 at d4 d6 b0 HB e3 e4 hHeld ⊢
   refine pq 0 38 1 HT_ ?_
   refine pq 1 39 3 HT_ ?_
   refine pq 3 41 11 HT_ ?_
   refine pq 4 42 27 HT_ ?_
   refine pq 5 43 59 HT_ ?_
   refine tq 6 44 123 HT_ HW_ hHeld ?_
   refine oq 2 40 127 HT_ (fun K hK=>?_)
   refine gq Try.func64 #[.int .i64 (rd b1 b4)] ?_
   with_reducible refine (shares_whole.calls (rd b1 b4) h4 h5 _ q9.out).mono ?_
   rintro e r9 ⟨rfl,hb⟩
   have o2:=(hb.cell (World.block_lt_of_cell? _ _ (hHeld.1))).trans (hHeld.1)
   have o3:=(hb.cell (World.block_lt_of_cell? _ _ (hHeld.2))).trans (hHeld.2)
   refine ⟨_,rfl,?_⟩
   replace d4:=rB d4 hb
   replace d6:=rB d6 hb
   replace b0:=kB b0 hb
   replace HB:=bB HB hb
   (try clear hb)
   refine hz hK (fun hHeld=>?_)
   clear hK K
   refine nq 40 ?_
   refine oq 7 45 255 HT_ (fun K hK=>?_)
   refine gq Try.func95 #[.agg #[.int .i64 h4,.int .i64 h5],.agg #[.int .i64 ((rd_T23 b3 b4).f0),.int .i64 ((rd_T23 b3 b4).f1)]] ?_
   with_reducible refine (shares_minus.calls k1 h4 h5 ((rd_T23 b3 b4).f0) ((rd_T23 b3 b4).f1) e1 e2 _ r0.out).mono ?_
   rintro e s0 ⟨rfl,hb⟩
   have o2:=(hb.cell (World.block_lt_of_cell? _ _ (hHeld.1))).trans (hHeld.1)
   have o3:=(hb.cell (World.block_lt_of_cell? _ _ (hHeld.2))).trans (hHeld.2)
   refine ⟨_,rfl,?_⟩
   replace d4:=rB d4 hb
   replace d6:=rB d6 hb
   replace b0:=kB b0 hb
   replace HB:=bB HB hb
   (try clear hb)
   refine hz hK (fun hHeld=>?_)
   clear hK K
   refine nq 45 ?_
   refine last_ (i:=8) (N:=some 46) (ba 11 511) rfl rfl (one_of HT_.out (by kernel_rfl)) (by decide) (fun K hK=>?_)
   refine value_ (w1:=?_) (v:=?_) (by rfl) rfl ?_ ?_
   rotate_left 2
   ·go_simp
    constructor
    ·rfl
    rfl
   refine hK.out _ _ ?_
   clear hK K
   refine nq 46 ?_
   refine last_ (i:=9) (N:=some 47) (ba 11 1023) rfl rfl (one_of HT_.out (by kernel_rfl)) (by decide) (fun K hK=>?_)
   refine Kd.R_append_step k23 (w0:=w) w.heap.size (by rfl) (.tmp 38) (.tmp 46) 35 23 (.agg #[(.int .i64 0),(.int .i64 0)]) 16 rfl Try.underlying35 info23 rfl (by decide) (by omega) u4 h3 (⟨e1,e2⟩:S23) [.int .i64 e1,.int .i64 e2] (fun k_=>some k_ ≠ (.slice (some d9) b3.length o1:Value).ownBlock) (fun _=>False) rfl rfl ?aP (fun _ hk=>hk.elim) ?aF ?aO ?aB ?aS ?aL ?_
   (case aP=>exact k23_mkM _ _ _ (⟨e1,e2⟩:S23))
   (case aB=>exact HB.out)
   (case aF=>exact (fun k_ hk=>Kd.fresh' (Kd.R_lt d4.out) k_ hk))
   (case aO=>exact d6.out)
   (case aS=>exact (below_size HB.out))
   (case aL=>have:=m5.out;omega)
   intro q0 s1 ho hb hg hat
   rw [← j7.out] at ho
   have j8:=A_ ho
   replace d4:=A_ (Kd.R_after (ok:=(fun _=>True)) (by exact Kd.R_mono d4.out (fun _ hk=>⟨trivial,hk⟩)) hg hat)
   replace b0:=A_ (blk_grown b0.out hg (Kd.R_ne d6.out b0.out (by decide)))
   replace HB:=A_ hb
   clear d6 ho hb hg hat
   refine hK.out _ _ ?_
   clear hK K
   refine nq 47 ?_
   refine pq 10 4 2047 HT_ ?_
   refine done_ (done_of HT_.out (by kernel_rfl)) ?_
   try go_wp2
   go_roundg k1
   case measure=>have:=p2.out;omega
   case rel=>exact ⟨(i7),(wrap64 (b4 + 1)),rfl,H',⟨by have:=p2.out;omega⟩,⟨by exact Kd.R_mono d4.out (fun _ hk=>hk.2)⟩,⟨by exact j8.out⟩,⟨by exact b0.out⟩,⟨bl HB⟩⟩
def shares_claims_piniles.l0:Nat → List (S23) → List (S23) → List (S23) → Int → Int → Option ((List (S23)))
 | 0,_,_,_,_,_=>none
 | k + 1,x3,x4,o7,x33,l5=>if l5 < x33 then (if 0 ≤ l5 then (if l5 < (o7.length:Int) then (if l5 < (x3.length:Int) then ((shares_add.f k ((rd_T23 o7 l5).f0) ((rd_T23 o7 l5).f1) ((rd_T23 x3 l5).f0) ((rd_T23 x3 l5).f1)).bind fun i2=>(if x4.length < 8796093022208 then (shares_claims_piniles.l0 k x3 (x4 ++ [(⟨i2.1,i2.2⟩:S23)]) o7 x33 (wrap64 (l5 + 1))) else (none))) else (none)) else (none)) else (none)) else (some x4)
def shares_claims_piniles.f (k:Nat) (b5:List Int) (b4:Int):Option ((List (S23))):=(shares_total.f k b5).bind fun e3=>(if (wrap64 (2 * b4)) ≤ e3 then ((shares_claims_halves.f k b5 b4).bind fun d9=>((shares_whole.f b4).bind fun d0=>((shares_equal.f k d9 d0.1 d0.2).bind fun e0=>(some e0)))) else ((shares_claims_halves.f k b5 b4).bind fun d6=>((shares_whole.f b4).bind fun d1=>((shares_total.f k b5).bind fun d5=>((shares_frac.f k d5 2).bind fun c0=>((shares_minus.f k d1.1 d1.2 c0.1 c0.2).bind fun c1=>((shares_equal.f k d6 c1.1 c1.2).bind fun b6=>((shares_claims_halves.f k b5 b4).bind fun b1=>(shares_claims_piniles.l0 k b6 ([]:List (S23)) b1 (b1.length:Int) 0)))))))))
theorem shares_claims_piniles.mono_l:∀ k,(∀ y0 y1 y2 y3 y4,LeO (shares_claims_piniles.l0 k y0 y1 y2 y3 y4) (shares_claims_piniles.l0 (k + 1) y0 y1 y2 y3 y4))
 | 0=>fun _ _ _ _ _ r h=>by simp [shares_claims_piniles.l0] at h
 | k + 1=>by
  have p7:=shares_claims_piniles.mono_l k
  intro y0 y1 y2 y3 y4
  unfold shares_claims_piniles.l0
  repeat' first
  | (with_reducible first | exact p7 _ _ _ _ _ | exact shares_add.mono _ _ _ _ _ | exact shares_claims_halves.mono _ _ _ | exact shares_equal.mono _ _ _ _ | exact shares_frac.mono _ _ _ | exact shares_minus.mono _ _ _ _ _ | exact shares_total.mono _ _ | exact LeO.refl _ | exact LeO.none _ | refine LeO.ite ?_ ?_ | refine LeO.bind ?_ (fun _=>?_))
  | exact LeO.none _ | refine LeO.ite ?_ ?_ | refine LeO.bind ?_ (fun _=>?_)
theorem shares_claims_piniles.mono:∀ a0 a1 k,LeO (shares_claims_piniles.f k a0 a1) (shares_claims_piniles.f (k + 1) a0 a1):=by
 intro a0 a1 k
 have p7:=shares_claims_piniles.mono_l k
 unfold shares_claims_piniles.f
 repeat' first
   | (with_reducible first | exact p7 _ _ _ _ _ | exact shares_add.mono _ _ _ _ _ | exact shares_claims_halves.mono _ _ _ | exact shares_equal.mono _ _ _ _ | exact shares_frac.mono _ _ _ | exact shares_minus.mono _ _ _ _ _ | exact shares_total.mono _ _ | exact LeO.refl _ | exact LeO.none _ | refine LeO.ite ?_ ?_ | refine LeO.bind ?_ (fun _=>?_))
   | exact LeO.none _ | refine LeO.ite ?_ ?_ | refine LeO.bind ?_ (fun _=>?_)
def shares_claims_piniles.T3:Bool × List (List Nat × List Nat):=(true,[([],[]),([0],[0]),([],[]),([2],[2]),([3,1],[3]),([],[]),([5],[5]),([6,4],[6]),([7,7],[7]),([4,8,8],[4,8]),([1,9,9],[1,9]),([10,10,0,1,2,3,4,5,6,7,8,9,10],[10])])
def shares_claims_piniles.B3:List Nat:=[0,1,0,4,15,0,32,127,255,511,1023,2047]
theorem shares_claims_piniles.tab3:rtab .any (opsOf Try.f101 3) = shares_claims_piniles.T3:=by kernel_rfl
theorem shares_claims_piniles.bits3:waitsOk shares_claims_piniles.T3.2 shares_claims_piniles.B3 = true:=by kernel_rfl
def shares_claims_piniles.T8:Bool × List (List Nat × List Nat):=(true,[([],[]),([],[]),([],[]),([],[]),([2,3],[2,3]),([4],[4]),([1,5],[1,5]),([6],[6]),([0,7,6],[0,7]),([8,8,0,1,2,3,4,5,6,7,8],[0,8])])
def shares_claims_piniles.B8:List Nat:=[0,0,0,0,12,28,62,126,255,511]
theorem shares_claims_piniles.tab8:rtab .any (opsOf Try.f101 8) = shares_claims_piniles.T8:=by kernel_rfl
theorem shares_claims_piniles.bits8:waitsOk shares_claims_piniles.T8.2 shares_claims_piniles.B8 = true:=by kernel_rfl
theorem shares_claims_piniles.calls (k:Nat) (d3:Option Addr) (d4:Nat) (b5:List Int) (b4:Int) (r:List (S23)) (w:World) (l7:Kd.C (Kd.int .i64) w d3 b5.length b5) (l8:b5.length ≤ d4) (h:shares_claims_piniles.f k b5 b4 = some r) :
  Calls Try.prog 101 #[.agg #[.slice d3 b5.length d4,.int .i64 b4]] w fun e w'=>∃ r1:Value,e = .returned (r1) ∧ Kd.R k23 23 w' w.heap.size (fun _=>True) r1 r ∧ Below w.heap.size w w':=by
 have t0:=Try.underlying94
 have t1:=Try.underlying23
 have e6:=A_ l7
 have e7:=A_ l8
 clear l7 l8
 have HB:=A_ (Below.refl w.heap.size w)
 have H:((shares_total.f k b5).bind fun e3=>(if (wrap64 (2 * b4)) ≤ e3 then ((shares_claims_halves.f k b5 b4).bind fun d9=>((shares_whole.f b4).bind fun d0=>((shares_equal.f k d9 d0.1 d0.2).bind fun e0=>(some e0)))) else ((shares_claims_halves.f k b5 b4).bind fun d6=>((shares_whole.f b4).bind fun d1=>((shares_total.f k b5).bind fun d5=>((shares_frac.f k d5 2).bind fun c0=>((shares_minus.f k d1.1 d1.2 c0.1 c0.2).bind fun c1=>((shares_equal.f k d6 c1.1 c1.2).bind fun b6=>((shares_claims_halves.f k b5 b4).bind fun b1=>(shares_claims_piniles.l0 k b6 ([]:List (S23)) b1 (b1.length:Int) 0)))))))))) = some r:=h
 clear h
 replace H:=Option.bind_eq_some_iff.mp H
 obtain ⟨e3,o8,H⟩:=H
 replace H:(if (wrap64 (2 * b4)) ≤ e3 then ((shares_claims_halves.f k b5 b4).bind fun d9=>((shares_whole.f b4).bind fun d0=>((shares_equal.f k d9 d0.1 d0.2).bind fun e0=>(some e0)))) else ((shares_claims_halves.f k b5 b4).bind fun d6=>((shares_whole.f b4).bind fun d1=>((shares_total.f k b5).bind fun d5=>((shares_frac.f k d5 2).bind fun c0=>((shares_minus.f k d1.1 d1.2 c0.1 c0.2).bind fun c1=>((shares_equal.f k d6 c1.1 c1.2).bind fun b6=>((shares_claims_halves.f k b5 b4).bind fun b1=>(shares_claims_piniles.l0 k b6 ([]:List (S23)) b1 (b1.length:Int) 0))))))))) = some r:=H
 have A2:=A_ o8
 clear o8
 by_cases c3:(wrap64 (2 * b4)) ≤ e3
 ·rw [if_pos c3] at H
  have p8:=decide_eq_true c3
  clear c3
  replace H:=Option.bind_eq_some_iff.mp H
  obtain ⟨d9,r2,H⟩:=H
  replace H:((shares_whole.f b4).bind fun d0=>((shares_equal.f k d9 d0.1 d0.2).bind fun e0=>(some e0))) = some r:=H
  have A4:=A_ r2
  clear r2
  replace H:=Option.bind_eq_some_iff.mp H
  obtain ⟨⟨i3,i4⟩,A50,H⟩:=H
  dsimp only at H
  have A5:=A_ A50
  clear A50
  replace H:=Option.bind_eq_some_iff.mp H
  obtain ⟨e0,r3,H⟩:=H
  replace H:(some e0) = some r:=H
  have A6:=A_ r3
  clear r3
  obtain rfl:=Option.some.inj H
  go_enter Try.func101,Try.ntmps101
  try go_wp2_with (first | ((with_reducible refine gate_dst (N:=1) rfl ?_);refine bx 1 #[.slice d3 b5.length d4,.int .i64 b4] 94 ?_;intro b8 hg w7 hbox hb;have b0:=A_ hbox;have h6:=gw hg HB;have m2:=h6;replace HB:=bB HB hb;clear hb hbox hg))
  replace b0:=kD b0
  replace HB:=bD HB
  refine start_ (n:=7) (S:=fun w'=>w'.cell? ⟨b8,0,none⟩ = some (.slice d3 b5.length d4) ∧ w'.cell? ⟨b8,1,none⟩ = some (.int .i64 b4)) (ds:=[]) (ba 7 0) (by kernel_rfl) rfl rfl ⟨cz b0 0,cz b0 1⟩ (fun hHeld=>?_)
  generalize w7.drew = w8 at b0 HB hHeld ⊢
  refine pr 0 7 1 ?_
  refine pr 3 10 9 ?_
  refine tr 1 8 11 hHeld ?_
  refine pr 2 9 15 ?_
  refine tr 4 11 31 hHeld ?_
  refine os 5 12 63 (fun K hK=>?_)
  refine gq Try.func93 #[.slice d3 b5.length d4] ?_
  with_reducible refine (shares_total.calls k _ _ b5 e3 _ ?side1 ?side2 A2.out).mono ?_
  (case side1=>exact cB e6 HB)
  (case side2=>exact e7.out)
  rintro e w' ⟨rfl,⟨nd,rfl⟩⟩
  refine ⟨_,rfl,?_⟩
  refine hz hK (fun hHeld=>?_)
  clear hK K
  refine nq 12 ?_
  refine pr 6 13 127 ?_
  refine done_ (by kernel_rfl) ?_
  try go_wp2
  (try (rw [drewN_self w8];generalize hq_:World.drewN w8 _ = w8;replace b0:Aside0 (w8.heap[b8]? = some (.cells #[.slice d3 b5.length d4,.int .i64 b4] 94 (0,0))):=⟨by rw [← hq_];exact b0.out⟩;replace HB:Aside0 (Below w.heap.size w w8):=⟨by rw [← hq_];exact (bl HB)⟩;clear hq_))
  replace b0:=kD b0
  replace HB:=bD HB
  refine start_ (n:=7) (S:=fun w'=>w'.cell? ⟨b8,0,none⟩ = some (.slice d3 b5.length d4) ∧ w'.cell? ⟨b8,1,none⟩ = some (.int .i64 b4)) (ds:=[]) (ba 7 0) (by kernel_rfl) rfl rfl ⟨cz b0 0,cz b0 1⟩ (fun hHeld=>?_)
  generalize w8.drew = w9 at b0 HB hHeld ⊢
  refine pr 2 16 4 ?_
  refine tr 0 14 5 hHeld ?_
  refine tr 3 17 13 hHeld ?_
  refine os 1 15 15 (fun K hK=>?_)
  refine gq Try.func123 #[.agg #[.slice d3 b5.length d4,.int .i64 b4]] ?_
  with_reducible refine (shares_claims_halves.calls k _ _ b5 b4 d9 _ ?side1 ?side2 A4.out).mono ?_
  (case side1=>exact cB e6 HB)
  (case side2=>exact e7.out)
  rintro e x7 ⟨r4,rfl,i0,hb⟩
  refine ⟨_,rfl,?_⟩
  have d7:=A_ (Kd.R_lower i0 (below_size (bl HB)))
  replace b0:=kB b0 hb
  replace HB:=bB HB hb
  (try clear hb)
  refine hz hK (fun hHeld=>?_)
  clear hK K
  refine nq 15 ?_
  refine os 4 18 31 (fun K hK=>?_)
  refine gq Try.func64 #[.int .i64 b4] ?_
  with_reducible refine (shares_whole.calls b4 i3 i4 _ A5.out).mono ?_
  rintro e x8 ⟨rfl,hb⟩
  refine ⟨_,rfl,?_⟩
  replace d7:=rB d7 hb
  replace b0:=kB b0 hb
  replace HB:=bB HB hb
  (try clear hb)
  obtain ⟨p9,q0,n0⟩:=Kd.R_slice d7.out
  (first | subst n0 | (injection n0 with l9 n1 m0;have n2:=l9.symm;have n3:=m0.symm;clear l9 n1 m0;subst n2;subst n3))
  refine hz hK (fun hHeld=>?_)
  clear hK K
  refine nq 18 ?_
  refine os 5 19 63 (fun K hK=>?_)
  refine gq Try.func122 #[.slice p9 d9.length q0,.agg #[.int .i64 i3,.int .i64 i4]] ?_
  with_reducible refine (shares_equal.calls k _ _ d9 i3 i4 e0 _ ?side1 ?side2 A6.out).mono ?_
  (case side1=>repeat (first | exact (Kd.R_reads' d7.out).2.2 | (with_reducible refine Kd.C_alloc ?_ _) | (with_reducible refine Kd.C_drewN ?_ _) | (with_reducible refine Kd.C_drew ?_)))
  (case side2=>exact (Kd.R_reads' d7.out).2.1)
  rintro e x9 ⟨r5,rfl,i0,hb⟩
  refine ⟨_,rfl,?_⟩
  have m3:=A_ (Kd.R_lower (Kd.R_new' i0 (Kd.R_lt d7.out)) (below_size HB.out))
  replace d7:=A_ (Kd.R_elder' d7.out (Kd.R_base i0) hb)
  replace b0:=kB b0 hb
  replace HB:=bB HB hb
  (try clear hb)
  refine hz hK (fun hHeld=>?_)
  clear hK K
  refine nq 19 ?_
  refine pr 6 2 127 ?_
  refine done_ (by kernel_rfl) ?_
  try go_wp2
  go_ret
  exact ⟨_,rfl,by exact Kd.R_mono m3.out (fun _ hk=>trivial),bl HB⟩
 rw [if_neg c3] at H
 have p8:=decide_eq_false c3
 clear c3
 replace H:=Option.bind_eq_some_iff.mp H
 obtain ⟨d6,n4,H⟩:=H
 replace H:((shares_whole.f b4).bind fun d1=>((shares_total.f k b5).bind fun d5=>((shares_frac.f k d5 2).bind fun c0=>((shares_minus.f k d1.1 d1.2 c0.1 c0.2).bind fun c1=>((shares_equal.f k d6 c1.1 c1.2).bind fun b6=>((shares_claims_halves.f k b5 b4).bind fun b1=>(shares_claims_piniles.l0 k b6 ([]:List (S23)) b1 (b1.length:Int) 0))))))) = some r:=H
 have t2:=A_ n4
 clear n4
 replace H:=Option.bind_eq_some_iff.mp H
 obtain ⟨⟨h8,h9⟩,A150,H⟩:=H
 dsimp only at H
 have t3:=A_ A150
 clear A150
 replace H:=Option.bind_eq_some_iff.mp H
 obtain ⟨d5,n5,H⟩:=H
 replace H:((shares_frac.f k d5 2).bind fun c0=>((shares_minus.f k h8 h9 c0.1 c0.2).bind fun c1=>((shares_equal.f k d6 c1.1 c1.2).bind fun b6=>((shares_claims_halves.f k b5 b4).bind fun b1=>(shares_claims_piniles.l0 k b6 ([]:List (S23)) b1 (b1.length:Int) 0))))) = some r:=H
 have t4:=A_ n5
 clear n5
 replace H:=Option.bind_eq_some_iff.mp H
 obtain ⟨⟨i5,i6⟩,A170,H⟩:=H
 dsimp only at H
 have t5:=A_ A170
 clear A170
 replace H:=Option.bind_eq_some_iff.mp H
 obtain ⟨⟨i7,i8⟩,A180,H⟩:=H
 dsimp only at H
 have t6:=A_ A180
 clear A180
 replace H:=Option.bind_eq_some_iff.mp H
 obtain ⟨b6,n6,H⟩:=H
 replace H:((shares_claims_halves.f k b5 b4).bind fun b1=>(shares_claims_piniles.l0 k b6 ([]:List (S23)) b1 (b1.length:Int) 0)) = some r:=H
 have t7:=A_ n6
 clear n6
 replace H:=Option.bind_eq_some_iff.mp H
 obtain ⟨b1,n7,H⟩:=H
 replace H:(shares_claims_piniles.l0 k b6 ([]:List (S23)) b1 (b1.length:Int) 0) = some r:=H
 have o8:=A_ n7
 clear n7
 have H':=A_ H
 clear H
 go_enter Try.func101,Try.ntmps101
 try go_wp2_with (first | ((with_reducible refine gate_dst (N:=1) rfl ?_);refine bx 1 #[.slice d3 b5.length d4,.int .i64 b4] 94 ?_;intro b8 hg t8 hbox hb;have b0:=A_ hbox;have h6:=gw hg HB;have m2:=h6;replace HB:=bB HB hb;clear hb hbox hg))
 replace b0:=kD b0
 replace HB:=bD HB
 refine start_ (n:=7) (S:=fun w'=>w'.cell? ⟨b8,0,none⟩ = some (.slice d3 b5.length d4) ∧ w'.cell? ⟨b8,1,none⟩ = some (.int .i64 b4)) (ds:=[]) (ba 7 0) (by kernel_rfl) rfl rfl ⟨cz b0 0,cz b0 1⟩ (fun hHeld=>?_)
 generalize t8.drew = m8 at b0 HB hHeld ⊢
 refine pr 0 7 1 ?_
 refine pr 3 10 9 ?_
 refine tr 1 8 11 hHeld ?_
 refine pr 2 9 15 ?_
 refine tr 4 11 31 hHeld ?_
 refine os 5 12 63 (fun K hK=>?_)
 refine gq Try.func93 #[.slice d3 b5.length d4] ?_
 with_reducible refine (shares_total.calls k _ _ b5 e3 _ ?side1 ?side2 A2.out).mono ?_
 (case side1=>exact cB e6 HB)
 (case side2=>exact e7.out)
 rintro e w' ⟨rfl,⟨nd,rfl⟩⟩
 refine ⟨_,rfl,?_⟩
 refine hz hK (fun hHeld=>?_)
 clear hK K
 refine nq 12 ?_
 refine pr 6 13 127 ?_
 refine done_ (by kernel_rfl) ?_
 try go_wp2
 (try (rw [drewN_self m8];generalize hq_:World.drewN m8 _ = m8;replace b0:Aside0 (m8.heap[b8]? = some (.cells #[.slice d3 b5.length d4,.int .i64 b4] 94 (0,0))):=⟨by rw [← hq_];exact b0.out⟩;replace HB:Aside0 (Below w.heap.size w m8):=⟨by rw [← hq_];exact (bl HB)⟩;clear hq_))
 replace b0:=kD b0
 replace HB:=bD HB
 refine st 12 (fun w'=>w'.cell? ⟨b8,0,none⟩ = some (.slice d3 b5.length d4) ∧ w'.cell? ⟨b8,1,none⟩ = some (.int .i64 b4)) [] shares_claims_piniles.tab3 shares_claims_piniles.bits3 (fun hHeld HT_ HW_=>?_)
 generalize m8.drew = y5 at b0 HB hHeld ⊢
 refine pq 2 22 4 HT_ ?_
 refine pq 5 25 36 HT_ ?_
 refine tq 0 20 37 HT_ HW_ hHeld ?_
 refine tq 3 23 45 HT_ HW_ hHeld ?_
 refine tq 6 26 109 HT_ HW_ hHeld ?_
 refine oq 1 21 111 HT_ (fun K hK=>?_)
 refine gq Try.func123 #[.agg #[.slice d3 b5.length d4,.int .i64 b4]] ?_
 with_reducible refine (shares_claims_halves.calls k _ _ b5 b4 d6 _ ?side1 ?side2 t2.out).mono ?_
 (case side1=>exact cB e6 HB)
 (case side2=>exact e7.out)
 rintro e y6 ⟨r6,rfl,i0,hb⟩
 refine ⟨_,rfl,?_⟩
 have b9:=A_ (Kd.R_lower i0 (below_size (bl HB)))
 replace b0:=kB b0 hb
 replace HB:=bB HB hb
 (try clear hb)
 refine hz hK (fun hHeld=>?_)
 clear hK K
 refine nq 21 ?_
 refine oq 4 24 127 HT_ (fun K hK=>?_)
 refine gq Try.func64 #[.int .i64 b4] ?_
 with_reducible refine (shares_whole.calls b4 h8 h9 _ t3.out).mono ?_
 rintro e y7 ⟨rfl,hb⟩
 refine ⟨_,rfl,?_⟩
 replace b9:=rB b9 hb
 replace b0:=kB b0 hb
 replace HB:=bB HB hb
 (try clear hb)
 refine hz hK (fun hHeld=>?_)
 clear hK K
 refine nq 24 ?_
 refine oq 7 27 255 HT_ (fun K hK=>?_)
 refine gq Try.func93 #[.slice d3 b5.length d4] ?_
 with_reducible refine (shares_total.calls k _ _ b5 d5 _ ?side1 ?side2 t4.out).mono ?_
 (case side1=>exact cB e6 HB)
 (case side2=>exact e7.out)
 rintro e w' ⟨rfl,⟨nd,rfl⟩⟩
 refine ⟨_,rfl,?_⟩
 refine hz hK (fun hHeld=>?_)
 clear hK K
 refine nq 27 ?_
 refine oq 8 28 511 HT_ (fun K hK=>?_)
 refine gq Try.func117 #[.int .i64 d5,.int .i64 2] ?_
 with_reducible refine (shares_frac.calls k d5 2 i5 i6 _ t5.out).mono ?_
 rintro e y8 ⟨rfl,hb⟩
 refine ⟨_,rfl,?_⟩
 replace b9:=rB b9 hb
 replace b0:=kB b0 hb
 replace HB:=bB HB hb
 (try clear hb)
 refine hz hK (fun hHeld=>?_)
 clear hK K
 refine nq 28 ?_
 refine oq 9 29 1023 HT_ (fun K hK=>?_)
 refine gq Try.func95 #[.agg #[.int .i64 h8,.int .i64 h9],.agg #[.int .i64 i5,.int .i64 i6]] ?_
 with_reducible refine (shares_minus.calls k h8 h9 i5 i6 i7 i8 _ t6.out).mono ?_
 rintro e y9 ⟨rfl,hb⟩
 refine ⟨_,rfl,?_⟩
 replace b9:=rB b9 hb
 replace b0:=kB b0 hb
 replace HB:=bB HB hb
 (try clear hb)
 obtain ⟨q1,q2,n8⟩:=Kd.R_slice b9.out
 (first | subst n8 | (injection n8 with l9 n1 m0;have n2:=l9.symm;have n3:=m0.symm;clear l9 n1 m0;subst n2;subst n3))
 refine hz hK (fun hHeld=>?_)
 clear hK K
 refine nq 29 ?_
 refine oq 10 30 2047 HT_ (fun K hK=>?_)
 refine gq Try.func122 #[.slice q1 d6.length q2,.agg #[.int .i64 i7,.int .i64 i8]] ?_
 with_reducible refine (shares_equal.calls k _ _ d6 i7 i8 b6 _ ?side1 ?side2 t7.out).mono ?_
 (case side1=>repeat (first | exact (Kd.R_reads' b9.out).2.2 | (with_reducible refine Kd.C_alloc ?_ _) | (with_reducible refine Kd.C_drewN ?_ _) | (with_reducible refine Kd.C_drew ?_)))
 (case side2=>exact (Kd.R_reads' b9.out).2.1)
 rintro e r7 ⟨e8,rfl,i0,hb⟩
 refine ⟨_,rfl,?_⟩
 have e9:=A_ (Kd.R_lower (Kd.R_new' i0 (Kd.R_lt b9.out)) (below_size HB.out))
 replace b9:=A_ (Kd.R_elder' b9.out (Kd.R_base i0) hb)
 replace b0:=kB b0 hb
 replace HB:=bB HB hb
 (try clear hb)
 refine hz hK (fun hHeld=>?_)
 clear hK K
 refine nq 30 ?_
 refine pq 11 3 4095 HT_ ?_
 refine done_ (done_of HT_.out (by kernel_rfl)) ?_
 have o9:r7.cell? ⟨b8,0,none⟩ = some (.slice d3 b5.length d4):=cz b0 0
 have p0:r7.cell? ⟨b8,1,none⟩ = some (.int .i64 b4):=cz b0 1
 have p1:=blk_frozen b0.out 0
 have p2:=blk_frozen b0.out 1
 try go_wp2_with (first | ((with_reducible refine gate_callee (f:=123) rfl ?_);refine gL (some 32) Try.func123 #[.agg #[.slice d3 b5.length d4,.int .i64 b4]] ?_;(with_reducible refine (shares_claims_halves.calls k _ _ b5 b4 b1 _ ?side1 ?side2 o8.out).mono ?_);(case side1=>exact cB e6 HB);(case side2=>exact e7.out);rintro e z0 ⟨r8,rfl,i0,hb⟩;refine ⟨_,rfl,?_⟩;have i9:=A_ (Kd.R_lower (Kd.R_new' (Kd.R_new' i0 (Kd.R_lt b9.out)) (Kd.R_lt e9.out)) (below_size HB.out));replace b9:=A_ (Kd.R_elder' b9.out (Kd.R_base i0) hb);replace e9:=A_ (Kd.R_elder' e9.out (Kd.R_base i0) hb);replace b0:=kB b0 hb;replace HB:=bB HB hb;(try clear hb);obtain ⟨m4,h0,q3⟩:=Kd.R_slice i9.out;subst q3))
 go_loopg [4,34] k (fun kq v4 t9 w'=>∃ (i1:List (S23)) (b2:Int),t9 = .int .i64 b2 ∧ Aside0 (shares_claims_piniles.l0 kq b6 i1 b1 (b1.length:Int) b2 = some r) ∧ Aside0 (kq ≤ k) ∧ Aside0 (Kd.R k23 23 w' w.heap.size (fun k_=>some k_ ≠ (v4:Value).ownBlock ∧ some k_ ≠ ((.slice m4 b1.length h0):Value).ownBlock) e8 b6) ∧ Aside0 (Kd.R k23 23 w' w.heap.size (fun k_=>some k_ ≠ (e8:Value).ownBlock ∧ some k_ ≠ ((.slice m4 b1.length h0):Value).ownBlock) v4 i1) ∧ Aside0 (Kd.R k23 23 w' w.heap.size (fun k_=>some k_ ≠ (e8:Value).ownBlock ∧ some k_ ≠ (v4:Value).ownBlock) (.slice m4 b1.length h0) b1) ∧ Aside0 (w'.heap[b8]? = some (.cells #[(.slice d3 b5.length d4),.int .i64 b4] 94 (0,0))) ∧ Aside0 (Below w.heap.size w w'))
 case atStart=>exact ⟨(([]:List (S23))),(0),rfl,H',⟨Nat.le_refl _⟩,⟨by exact Kd.R_mono e9.out (fun _ hk=>⟨(by simp [Value.ownBlock]),hk.2⟩)⟩,⟨by first | exact Kd.R_nil _ _ _ _ _ | exact Kd.N_nil _ _ _ _ _ | exact Kd.V_nil _ _ _ _ _ | exact Kd.Q_nil _ _ _ _ _ | exact Kd.S_nil _ _ _ _ _⟩,⟨by exact Kd.R_mono i9.out (fun _ hk=>⟨hk.2,(by simp [Value.ownBlock])⟩)⟩,⟨by exact b0.out⟩,⟨bl HB⟩⟩
 case round =>
  clear H'
  obtain ⟨i1,b2,rfl,HA,r9,e1,e2,d2,b0,HB⟩:=hrel
  cases gk with
  | zero=>exact absurd HA.out (by simp [shares_claims_piniles.l0])
  | succ k1 =>
   have H:=HA.out
   clear HA
   simp only [shares_claims_piniles.l0] at H
   by_cases m9:b2 < (b1.length:Int)
   case neg =>
    rw [if_neg m9] at H
    have n9:=decide_eq_false m9
    clear m9
    obtain rfl:=Option.some.inj H
    go_wp2
    go_ret
    exact ⟨_,rfl,by exact Kd.R_mono e2.out (fun _ hk=>trivial),bl HB⟩
   rw [if_pos m9] at H
   have n9:=decide_eq_true m9
   clear m9
   replace H:=gd H
   obtain ⟨s0,H⟩:=H
   have s1:=decide_eq_true s0
   clear s0
   replace H:=gd H
   obtain ⟨s2,H⟩:=H
   have s3:=decide_eq_true s2
   clear s2
   replace H:=gd H
   obtain ⟨s4,H⟩:=H
   have s5:=decide_eq_true s4
   clear s4
   replace H:=Option.bind_eq_some_iff.mp H
   obtain ⟨⟨h1,h2⟩,A370,H⟩:=H
   dsimp only at H
   have x0:=A_ A370
   clear A370
   replace H:=gd H
   obtain ⟨s6,H⟩:=H
   have o0:=A_ s6
   clear s6
   obtain ⟨m1,h7⟩:∃ y_:List (S23),y_ = (i1 ++ [(⟨h1,h2⟩:S23)]):=⟨_,rfl⟩
   replace H:(shares_claims_piniles.l0 k1 b6 m1 b1 (b1.length:Int) (wrap64 (b2 + 1))) = some r:=by rw [h7];exact H
   have m5:=A_ h7
   clear h7
   have H':=A_ H
   clear H
   have j5:0 ≤ (b2:Int):=of_decide_eq_true (by assumption)
   have j7:b2 < (b1.length:Int):=of_decide_eq_true (by assumption)
   obtain ⟨e4,o1,o2,o3⟩:=at_T23 (Kd.R_reads' d2.out).2.2 b2 j5 j7
   cases o1
   replace j5:=eq_true j5
   replace j7:=eq_true j7
   try go_wp2_with (first | ((with_reducible refine gate_dst (N:=6) rfl ?_);refine bx 6 #[.int .i64 0,.int .i64 0] 23 ?_;intro b3 hg l6 hbox hb;have b7:=A_ hbox;have m6:=gw hg HB;have q4:=m6;have d8:=nl hg b0;have h3:=ng hg b0;replace e1:=A_ (Kd.R_below (Kd.R_elderB e1.out b3 (Nat.le_of_eq hg.symm)) hb);replace e2:=A_ (Kd.R_below (Kd.R_elderB e2.out b3 (Nat.le_of_eq hg.symm)) hb);replace d2:=A_ (Kd.R_below (Kd.R_elderB d2.out b3 (Nat.le_of_eq hg.symm)) hb);replace b0:=kB b0 hb;replace HB:=bB HB hb;clear hb hbox hg;have s7:=h3.out;have s8:=d8.out;have p3:l6.cell? ⟨b3,0,none⟩ = some (.int .i64 0):=cz b7 0;have p4:l6.cell? ⟨b3,1,none⟩ = some (.int .i64 0):=cz b7 1;have p5:=blk_frozen b7.out 0;have p6:=blk_frozen b7.out 1))
   have q5:Aside0 (Kd.R k23 23 ((l6.setCell ⟨b3,0,none⟩ (.int .i64 ((rd_T23 b1 b2).f0))).setCell ⟨b3,1,none⟩ (.int .i64 ((rd_T23 b1 b2).f1))) w.heap.size (fun k_=>some k_ ≠ (u4:Value).ownBlock ∧ some k_ ≠ (.slice (some e4) b1.length h0:Value).ownBlock ∧ k_ ≠ b3) e8 b6):=⟨by exact Kd.R_mono (Kd.R_far (p:=⟨b3,1,none⟩) (Kd.R_far (p:=⟨b3,0,none⟩) (Kd.R_mono e1.out (fun k_ hk=>(⟨hk,hk.2⟩:_ ∧ k_ ≠ b3))) (fun _ hk=>hk.2) (.int .i64 ((rd_T23 b1 b2).f0))) (fun _ hk=>hk.2) (.int .i64 ((rd_T23 b1 b2).f1))) (fun _ hk=>⟨hk.1.1.1,⟨hk.1.1.2,hk.1.2⟩⟩)⟩
   have q6:Aside0 (Kd.R k23 23 ((l6.setCell ⟨b3,0,none⟩ (.int .i64 ((rd_T23 b1 b2).f0))).setCell ⟨b3,1,none⟩ (.int .i64 ((rd_T23 b1 b2).f1))) w.heap.size (fun k_=>some k_ ≠ (e8:Value).ownBlock ∧ some k_ ≠ (.slice (some e4) b1.length h0:Value).ownBlock ∧ k_ ≠ b3) u4 i1):=⟨by exact Kd.R_mono (Kd.R_far (p:=⟨b3,1,none⟩) (Kd.R_far (p:=⟨b3,0,none⟩) (Kd.R_mono e2.out (fun k_ hk=>(⟨hk,hk.2⟩:_ ∧ k_ ≠ b3))) (fun _ hk=>hk.2) (.int .i64 ((rd_T23 b1 b2).f0))) (fun _ hk=>hk.2) (.int .i64 ((rd_T23 b1 b2).f1))) (fun _ hk=>⟨hk.1.1.1,⟨hk.1.1.2,hk.1.2⟩⟩)⟩
   have q7:Aside0 (Kd.R k23 23 ((l6.setCell ⟨b3,0,none⟩ (.int .i64 ((rd_T23 b1 b2).f0))).setCell ⟨b3,1,none⟩ (.int .i64 ((rd_T23 b1 b2).f1))) w.heap.size (fun k_=>some k_ ≠ (e8:Value).ownBlock ∧ some k_ ≠ (u4:Value).ownBlock ∧ k_ ≠ b3) (.slice (some e4) b1.length h0) b1):=⟨by exact Kd.R_mono (Kd.R_far (p:=⟨b3,1,none⟩) (Kd.R_far (p:=⟨b3,0,none⟩) (Kd.R_mono d2.out (fun k_ hk=>(⟨hk,hk.2⟩:_ ∧ k_ ≠ b3))) (fun _ hk=>hk.2) (.int .i64 ((rd_T23 b1 b2).f0))) (fun _ hk=>hk.2) (.int .i64 ((rd_T23 b1 b2).f1))) (fun _ hk=>⟨hk.1.1.1,⟨hk.1.1.2,hk.1.2⟩⟩)⟩
   have q8:Aside0 (((l6.setCell ⟨b3,0,none⟩ (.int .i64 ((rd_T23 b1 b2).f0))).setCell ⟨b3,1,none⟩ (.int .i64 ((rd_T23 b1 b2).f1))).heap[b8]? = some (.cells #[.slice d3 b5.length d4,.int .i64 b4] 94 (0,0))):=⟨by refine blk_far ?_ d8.out _;refine blk_far ?_ d8.out _;exact b0.out⟩
   have q9:Aside0 (((l6.setCell ⟨b3,0,none⟩ (.int .i64 ((rd_T23 b1 b2).f0))).setCell ⟨b3,1,none⟩ (.int .i64 ((rd_T23 b1 b2).f1))).heap[b3]? = some (.cells #[.int .i64 ((rd_T23 b1 b2).f0),.int .i64 ((rd_T23 b1 b2).f1)] 23 (0,0))):=⟨by refine blk_put (cs:=#[.int .i64 ((rd_T23 b1 b2).f0),.int .i64 0]) ?_ 1 _ rfl;refine blk_put (cs:=#[.int .i64 0,.int .i64 0]) ?_ 0 _ rfl;exact b7.out⟩
   have r0:Aside0 (Below w.heap.size w ((l6.setCell ⟨b3,0,none⟩ (.int .i64 ((rd_T23 b1 b2).f0))).setCell ⟨b3,1,none⟩ (.int .i64 ((rd_T23 b1 b2).f1)))):=⟨bl HB⟩
   generalize ((l6.setCell ⟨b3,0,none⟩ (.int .i64 ((rd_T23 b1 b2).f0))).setCell ⟨b3,1,none⟩ (.int .i64 ((rd_T23 b1 b2).f1))) = x1 at q5 q6 q7 q8 q9 r0 ⊢
   have e1:=q5
   have e2:=q6
   have d2:=q7
   have b0:=q8
   have b7:=q9
   have HB:=r0
   clear q5 q6 q7 q8 q9 r0
   replace e1:=rD e1
   replace e2:=rD e2
   replace d2:=rD d2
   replace b0:=kD b0
   replace b7:=kD b7
   replace HB:=bD HB
   obtain ⟨x2,o4,o5⟩:=Kd.R_slice e1.out
   (first | subst o5 | (injection o5 with l9 n1 m0;have n2:=l9.symm;have n3:=m0.symm;clear l9 n1 m0;subst n2;subst n3))
   have j8:0 ≤ (b2:Int):=of_decide_eq_true (by assumption)
   have j9:b2 < (b6.length:Int):=of_decide_eq_true (by assumption)
   obtain ⟨e5,o6,h4,h5⟩:=at_T23 (Kd.R_reads' e1.out).2.2 b2 j8 j9
   cases o6
   replace j8:=eq_true j8
   replace j9:=eq_true j9
   refine start_ (n:=10) (S:=fun w'=>w'.cell? ⟨b3,0,none⟩ = some (.int .i64 ((rd_T23 b1 b2).f0)) ∧ w'.cell? ⟨b3,1,none⟩ = some (.int .i64 ((rd_T23 b1 b2).f1)) ∧ w'.cell? (e5.add ((b2).toNat * 2)) = some (.int .i64 ((rd_T23 b6 b2).f0)) ∧ w'.cell? ⟨(e5.add ((b2).toNat * 2)).block,(e5.add ((b2).toNat * 2)).off + 1,none⟩ = some (.int .i64 ((rd_T23 b6 b2).f1))) (ds:=[7,8]) (ba 10 0) (by kernel_rfl) rfl rfl ⟨cz b7 0,cz b7 1,h4,h5⟩ (fun hHeld=>?_);refine with_tabW shares_claims_piniles.tab8 shares_claims_piniles.bits8 (fun HT_ HW_=>?_)
   generalize x1.drew = z1 at e1 e2 d2 b0 b7 HB h4 h5 hHeld ⊢
   refine pq 0 39 1 HT_ ?_
   refine pq 2 41 5 HT_ ?_
   refine pq 3 42 13 HT_ ?_
   refine pq 4 43 29 HT_ ?_
   refine tq 1 40 31 HT_ HW_ hHeld ?_
   refine tq 5 44 63 HT_ HW_ hHeld ?_
   refine oq 6 45 127 HT_ (fun K hK=>?_)
   refine gq Try.func88 #[.agg #[.int .i64 ((rd_T23 b1 b2).f0),.int .i64 ((rd_T23 b1 b2).f1)],.agg #[.int .i64 ((rd_T23 b6 b2).f0),.int .i64 ((rd_T23 b6 b2).f1)]] ?_
   with_reducible refine (shares_add.calls k1 ((rd_T23 b1 b2).f0) ((rd_T23 b1 b2).f1) ((rd_T23 b6 b2).f0) ((rd_T23 b6 b2).f1) h1 h2 _ x0.out).mono ?_
   rintro e z2 ⟨rfl,hb⟩
   have x5:=(hb.cell (World.block_lt_of_cell? _ _ (hHeld.2.2.1))).trans (hHeld.2.2.1)
   have x6:=(hb.cell (World.block_lt_of_cell? _ _ (hHeld.2.2.2))).trans (hHeld.2.2.2)
   refine ⟨_,rfl,?_⟩
   replace e1:=rB e1 hb
   replace e2:=rB e2 hb
   replace d2:=rB d2 hb
   replace b0:=kB b0 hb
   replace b7:=kB b7 hb
   replace HB:=bB HB hb
   (try clear hb)
   refine hz hK (fun hHeld=>?_)
   clear hK K
   refine nq 45 ?_
   refine last_ (i:=7) (N:=some 46) (ba 10 255) rfl rfl (one_of HT_.out (by kernel_rfl)) (by decide) (fun K hK=>?_)
   refine value_ (w1:=?_) (v:=?_) (by rfl) rfl ?_ ?_
   rotate_left 2
   ·go_simp
    constructor
    ·rfl
    rfl
   refine hK.out _ _ ?_
   clear hK K
   refine nq 46 ?_
   refine last_ (i:=8) (N:=some 47) (ba 10 511) rfl rfl (one_of HT_.out (by kernel_rfl)) (by decide) (fun K hK=>?_)
   refine Kd.R_append_step k23 (w0:=w) w.heap.size (by rfl) (.tmp 39) (.tmp 46) 35 23 (.agg #[(.int .i64 0),(.int .i64 0)]) 16 rfl Try.underlying35 info23 rfl (by decide) (by omega) u4 i1 (⟨h1,h2⟩:S23) [.int .i64 h1,.int .i64 h2] (fun k_=>some k_ ≠ (.slice (some e5) b6.length o4:Value).ownBlock ∧ some k_ ≠ (.slice (some e4) b1.length h0:Value).ownBlock ∧ k_ ≠ b3) (fun _=>False) rfl rfl ?aP (fun _ hk=>hk.elim) ?aF ?aO ?aB ?aS ?aL ?_
   (case aP=>exact k23_mkM _ _ _ (⟨h1,h2⟩:S23))
   (case aB=>exact HB.out)
   (case aF=>exact (fun k_ hk=>⟨Kd.fresh' (Kd.R_lt e1.out) k_ hk,Kd.fresh' (Kd.R_lt d2.out) k_ hk,Kd.freshB (g:=b3) (o:=.cells #[.int .i64 ((rd_T23 b1 b2).f0),.int .i64 ((rd_T23 b1 b2).f1)] 23 (0,0)) b7.out k_ hk⟩))
   (case aO=>exact e2.out)
   (case aS=>exact (below_size HB.out))
   (case aL=>have:=o0.out;omega)
   intro s9 z3 ho hb hg hat
   rw [← m5.out] at ho
   have m7:=A_ ho
   replace e1:=A_ (Kd.R_after (ok:=(fun k_=>some k_ ≠ (.slice (some e4) b1.length h0:Value).ownBlock ∧ k_ ≠ b3)) (by exact Kd.R_mono e1.out (fun _ hk=>⟨⟨hk.2.1,hk.2.2⟩,hk.1⟩)) hg hat)
   replace d2:=A_ (Kd.R_after (ok:=(fun k_=>some k_ ≠ (.slice (some e5) b6.length o4:Value).ownBlock ∧ k_ ≠ b3)) (by exact Kd.R_mono d2.out (fun _ hk=>⟨⟨hk.1,hk.2.2⟩,hk.2.1⟩)) hg hat)
   replace b0:=A_ (blk_grown b0.out hg (Kd.R_ne e2.out b0.out (by decide)))
   replace b7:=A_ (blk_grown b7.out hg (Kd.R_away e2.out (fun _ hk=>hk.2.2)))
   replace HB:=A_ hb
   clear e2 ho hb hg hat
   refine hK.out _ _ ?_
   clear hK K
   refine nq 47 ?_
   refine pq 9 4 1023 HT_ ?_
   refine done_ (done_of HT_.out (by kernel_rfl)) ?_
   try go_wp2
   go_roundg k1
   case measure=>have:=r9.out;omega
   case rel=>exact ⟨(m1),(wrap64 (b2 + 1)),rfl,H',⟨by have:=r9.out;omega⟩,⟨by exact Kd.R_mono e1.out (fun _ hk=>⟨hk.2,hk.1.1⟩)⟩,⟨by exact Kd.R_mono m7.out (fun _ hk=>⟨hk.1,hk.2.1⟩)⟩,⟨by exact Kd.R_mono d2.out (fun _ hk=>⟨hk.1.1,hk.2⟩)⟩,⟨by exact b0.out⟩,⟨bl HB⟩⟩
end Go.Proofs.Ytjohcjfmlhihbaa.G
namespace Go.Proofs.Ytjohcjfmlhihbaa.G
open Go Go.RowKit Go.Shelf Go.Proofs.Ytjohcjfmlhihbaa.H Go.Proofs.YtjohcjfmlhihbaaW.PrintWords
attribute [local go_sem] Oper.semAt_some wide_fn
def boundF (f:Nat) (A:Option Addr) (n c:Nat) (e:Int):Value:=.func (.func f) #[.agg #[.slice A n c,.int .i64 e]] #[]
def rulesM (A:Option Addr) (n c:Nat) (e:Int):Array MapEntry :=
 #[⟨.int .i64 0,boundF 97 A n c e,0⟩,⟨.int .i64 1,boundF 98 A n c e,1⟩,⟨.int .i64 2,boundF 99 A n c e,2⟩,⟨.int .i64 3,boundF 100 A n c e,3⟩,⟨.int .i64 4,boundF 101 A n c e,4⟩]
theorem gate_none {P:Program} {ops:Array Oper} {rest:List Oper} {o:Oper} {a:Act} {Q:Exit → Act → World → Prop} {w:World} (_h:o.dst = none) (h:wpList P ops Q (o :: rest) a w):wpList P ops Q (o :: rest) a w:=h
set_option maxHeartbeats 8000000 in
set_option maxRecDepth 100000 in
theorem rules_any (A:Option Addr) (n c:Nat) (e0:Int) (w:World) :
  Calls Try.prog 68 #[.agg #[.slice A n c,.int .i64 e0]] w fun e w'=>∃ b,e = .returned (.map (some b)) ∧ w'.heap[b]? = some (.map (rulesM A n c e0) 5) ∧ w.heap.size ≤ b ∧ Below w.heap.size w w':=by
 have hu94:=Try.underlying94
 have HB:=Aside0.mk (Below.refl w.heap.size w)
 go_enter Try.func68,Try.ntmps68
 go_wp2_with (first | ((with_reducible refine gate_dst (N:=1) rfl ?_);refine box_event ?hg (N:=1) ?hd (cs:=#[.slice A n c,.int .i64 e0]) (t:=94) ?hr ?_;(case hd=>rfl);(case hg=>rfl);(case hr=>first | (go_simp;done) | (go_simp;rfl));intro gbC hg w2 hbox hb;have n0_:=Aside0.mk (below_step HB.out hb);have n1_:=Aside0.mk hbox;clear HB;have HB:=n0_;have BKC:=n1_;clear n0_ n1_;clear hb hbox hg) | ((with_reducible refine gate_dst (N:=3) rfl ?_);refine map_event rfl 104 rfl ?_;intro gbM hg w3 hmap hb;have n0_:=Aside0.mk (below_step HB.out hb);have n1_:=Aside0.mk hmap;have n2_:=Aside0.mk (blk_below BKC.out hb);have n3_:=Aside0.mk (by rw [hg];exact HB.out.size:w.heap.size ≤ gbM);have n4_:=Aside0.mk (by rw [hg];exact Nat.ne_of_lt (blk_lt BKC.out):gbC ≠ gbM);clear HB BKC;have HB:=n0_;have HM:=n1_;have BKC:=n2_;have GEM:=n3_;have NEM:=n4_;clear n0_ n1_ n2_ n3_ n4_;clear hb hmap hg;have hczC:=(blk_cell BKC.out 0).trans rfl;have hczC1:=(blk_cell BKC.out 1).trans rfl) | ((with_reducible refine gate_none rfl ?_);refine insert_new _ rfl (.tmp 3) (.const (.int .i64 0)) (.tmp 5) 104 3 102 rfl Try.underlying104 Try.underlying3 gbM #[] 0 rfl HM.out 0 (boundF 97 A n c e0) rfl rfl (by rfl) ?_;intro w4 hm hg;have n0_:=Aside0.mk (HB.out.grown hg HB.out.size (fun k e=>by injection e with e;rw [← e];exact GEM.out));have n1_:=Aside0.mk (show w4.heap[gbM]? = some (.map #[⟨.int .i64 0,boundF 97 A n c e0,0⟩] 1) from hm);have n2_:=Aside0.mk (blk_grown BKC.out hg (fun e=>NEM.out (by injection e)));clear HB HM BKC;(try clear hczC hczC1);have HB:=n0_;have HM:=n1_;have BKC:=n2_;clear n0_ n1_ n2_;clear hm hg;have hczC:=(blk_cell BKC.out 0).trans rfl;have hczC1:=(blk_cell BKC.out 1).trans rfl) | ((with_reducible refine gate_none rfl ?_);refine insert_new _ rfl (.tmp 3) (.const (.int .i64 1)) (.tmp 7) 104 3 102 rfl Try.underlying104 Try.underlying3 gbM #[⟨.int .i64 0,boundF 97 A n c e0,0⟩] 1 rfl HM.out 1 (boundF 98 A n c e0) rfl rfl (by rfl) ?_;intro w4 hm hg;have n0_:=Aside0.mk (HB.out.grown hg HB.out.size (fun k e=>by injection e with e;rw [← e];exact GEM.out));have n1_:=Aside0.mk (show w4.heap[gbM]? = some (.map #[⟨.int .i64 0,boundF 97 A n c e0,0⟩,⟨.int .i64 1,boundF 98 A n c e0,1⟩] 2) from hm);have n2_:=Aside0.mk (blk_grown BKC.out hg (fun e=>NEM.out (by injection e)));clear HB HM BKC;(try clear hczC hczC1);have HB:=n0_;have HM:=n1_;have BKC:=n2_;clear n0_ n1_ n2_;clear hm hg;have hczC:=(blk_cell BKC.out 0).trans rfl;have hczC1:=(blk_cell BKC.out 1).trans rfl) | ((with_reducible refine gate_none rfl ?_);refine insert_new _ rfl (.tmp 3) (.const (.int .i64 2)) (.tmp 9) 104 3 102 rfl Try.underlying104 Try.underlying3 gbM #[⟨.int .i64 0,boundF 97 A n c e0,0⟩,⟨.int .i64 1,boundF 98 A n c e0,1⟩] 2 rfl HM.out 2 (boundF 99 A n c e0) rfl rfl (by rfl) ?_;intro w4 hm hg;have n0_:=Aside0.mk (HB.out.grown hg HB.out.size (fun k e=>by injection e with e;rw [← e];exact GEM.out));have n1_:=Aside0.mk (show w4.heap[gbM]? = some (.map #[⟨.int .i64 0,boundF 97 A n c e0,0⟩,⟨.int .i64 1,boundF 98 A n c e0,1⟩,⟨.int .i64 2,boundF 99 A n c e0,2⟩] 3) from hm);have n2_:=Aside0.mk (blk_grown BKC.out hg (fun e=>NEM.out (by injection e)));clear HB HM BKC;(try clear hczC hczC1);have HB:=n0_;have HM:=n1_;have BKC:=n2_;clear n0_ n1_ n2_;clear hm hg;have hczC:=(blk_cell BKC.out 0).trans rfl;have hczC1:=(blk_cell BKC.out 1).trans rfl) | ((with_reducible refine gate_none rfl ?_);refine insert_new _ rfl (.tmp 3) (.const (.int .i64 3)) (.tmp 11) 104 3 102 rfl Try.underlying104 Try.underlying3 gbM #[⟨.int .i64 0,boundF 97 A n c e0,0⟩,⟨.int .i64 1,boundF 98 A n c e0,1⟩,⟨.int .i64 2,boundF 99 A n c e0,2⟩] 3 rfl HM.out 3 (boundF 100 A n c e0) rfl rfl (by rfl) ?_;intro w4 hm hg;have n0_:=Aside0.mk (HB.out.grown hg HB.out.size (fun k e=>by injection e with e;rw [← e];exact GEM.out));have n1_:=Aside0.mk (show w4.heap[gbM]? = some (.map #[⟨.int .i64 0,boundF 97 A n c e0,0⟩,⟨.int .i64 1,boundF 98 A n c e0,1⟩,⟨.int .i64 2,boundF 99 A n c e0,2⟩,⟨.int .i64 3,boundF 100 A n c e0,3⟩] 4) from hm);have n2_:=Aside0.mk (blk_grown BKC.out hg (fun e=>NEM.out (by injection e)));clear HB HM BKC;(try clear hczC hczC1);have HB:=n0_;have HM:=n1_;have BKC:=n2_;clear n0_ n1_ n2_;clear hm hg;have hczC:=(blk_cell BKC.out 0).trans rfl;have hczC1:=(blk_cell BKC.out 1).trans rfl) | ((with_reducible refine gate_none rfl ?_);refine insert_new _ rfl (.tmp 3) (.const (.int .i64 4)) (.tmp 13) 104 3 102 rfl Try.underlying104 Try.underlying3 gbM #[⟨.int .i64 0,boundF 97 A n c e0,0⟩,⟨.int .i64 1,boundF 98 A n c e0,1⟩,⟨.int .i64 2,boundF 99 A n c e0,2⟩,⟨.int .i64 3,boundF 100 A n c e0,3⟩] 4 rfl HM.out 4 (boundF 101 A n c e0) rfl rfl (by rfl) ?_;intro w4 hm hg;have n0_:=Aside0.mk (HB.out.grown hg HB.out.size (fun k e=>by injection e with e;rw [← e];exact GEM.out));have n1_:=Aside0.mk (show w4.heap[gbM]? = some (.map #[⟨.int .i64 0,boundF 97 A n c e0,0⟩,⟨.int .i64 1,boundF 98 A n c e0,1⟩,⟨.int .i64 2,boundF 99 A n c e0,2⟩,⟨.int .i64 3,boundF 100 A n c e0,3⟩,⟨.int .i64 4,boundF 101 A n c e0,4⟩] 5) from hm);have n2_:=Aside0.mk (blk_grown BKC.out hg (fun e=>NEM.out (by injection e)));clear HB HM BKC;(try clear hczC hczC1);have HB:=n0_;have HM:=n1_;have BKC:=n2_;clear n0_ n1_ n2_;clear hm hg;have hczC:=(blk_cell BKC.out 0).trans rfl;have hczC1:=(blk_cell BKC.out 1).trans rfl))
 go_ret
 exact ⟨gbM,rfl,HM.out,GEM.out,HB.out⟩
def shares_Award.f (k:Nat) (a0:Int) (l1:List Int) (a2:Int):Option ((List (S23)) × (Int)) :=
 (newClaimsR.f k l1 a2).bind fun ok=>if ok = true then
  (if a0 = 0 then (shares_claims_proportional.f k l1 a2).bind fun x=>some (x,0)
  else if a0 = 1 then (shares_claims_awards.f k l1 a2).bind fun x=>some (x,0)
  else if a0 = 2 then (shares_claims_losses.f k l1 a2).bind fun x=>some (x,0)
  else if a0 = 3 then (shares_claims_talmud.f k l1 a2).bind fun x=>some (x,0)
  else if a0 = 4 then (shares_claims_piniles.f k l1 a2).bind fun x=>some (x,0)
  else some ([],2)) else some ([],2)
theorem shares_Award.mono:∀ a0 l1 a2 k,LeO (shares_Award.f k a0 l1 a2) (shares_Award.f (k + 1) a0 l1 a2):=by
 intro a0 l1 a2 k
 unfold shares_Award.f
 refine LeO.bind (newClaimsR.mono _ _ _) (fun _=>LeO.ite ?_ (LeO.refl _))
 refine LeO.ite (LeO.bind (shares_claims_proportional.mono _ _ _) (fun _=>LeO.refl _)) ?_
 refine LeO.ite (LeO.bind (shares_claims_awards.mono _ _ _) (fun _=>LeO.refl _)) ?_
 refine LeO.ite (LeO.bind (shares_claims_losses.mono _ _ _) (fun _=>LeO.refl _)) ?_
 refine LeO.ite (LeO.bind (shares_claims_talmud.mono _ _ _) (fun _=>LeO.refl _)) ?_
 exact LeO.ite (LeO.bind (shares_claims_piniles.mono _ _ _) (fun _=>LeO.refl _)) (LeO.refl _)
set_option maxHeartbeats 8000000 in
set_option maxRecDepth 100000 in
theorem shares_Award.calls (k:Nat) (a0:Int) (A1:Option Addr) (c1:Nat) (l1:List Int) (a2:Int) (r1:List (S23)) (r2:Int) (w:World) (hr1:Kd.C (Kd.int .i64) w A1 l1.length l1) (hc1:l1.length ≤ c1) (h:shares_Award.f k a0 l1 a2 = some (r1,r2)) :
  Calls Try.prog 26 #[.int .i64 a0,.slice A1 l1.length c1,.int .i64 a2] w fun e w'=>∃ v0_:Value,e = .returned (.tuple #[v0_,.int .i64 r2]) ∧ Kd.R k23 23 w' w.heap.size (fun _=>True) v0_ r1 ∧ Below w.heap.size w w':=by
 have hu94:=Try.underlying94
 have HR1:=Aside0.mk hr1
 have HC1:=Aside0.mk hc1
 clear hr1 hc1
 have HB:=Aside0.mk (Below.refl w.heap.size w)
 unfold shares_Award.f at h
 obtain ⟨ok,h1,h⟩:=Option.bind_eq_some_iff.1 h
 have A1_:=Aside0.mk h1
 have H:=Aside0.mk h
 clear h h1
 go_enter Try.func26,Try.ntmps26
 go_wp2_with fail
 refine (newClaimsR.calls k A1 c1 l1 a2 ok _ HR1.out HC1.out A1_.out).mono ?_
 rintro e w1 ⟨rfl,hb⟩
 have n0_:=Aside0.mk (below_step HB.out hb)
 clear HB hb
 have HB:=n0_
 clear n0_
 go_wp2_with (first | ((with_reducible refine gate_dst (N:=8) rfl ?_);refine box_event ?hg (N:=8) ?hd (cs:=#[.slice none 0 0,.int .i64 0]) (t:=94) ?hr ?_;(case hd=>rfl);(case hg=>rfl);(case hr=>first | (go_simp;done) | (go_simp;rfl));intro gbC hg w2 hbox hb;have n0_:=Aside0.mk (below_step HB.out hb);have n1_:=Aside0.mk hbox;have n2_:=Aside0.mk (by rw [hg];exact HB.out.size:w.heap.size ≤ gbC);clear HB;have HB:=n0_;have BKC:=n1_;have GEC:=n2_;clear n0_ n1_ n2_;clear hb hbox hg;have hczC:=(blk_cell BKC.out 0).trans rfl;have hczC1:=(blk_cell BKC.out 1).trans rfl;have hfzC:=blk_frozen BKC.out 0;have hfzC1:=blk_frozen BKC.out 1))
 refine (rules_any A1 l1.length c1 a2 _).mono ?_
 rintro e w3 ⟨b,rfl,hm,hge,hb⟩
 have n0_:=Aside0.mk (below_step (below_set (below_set HB.out GEC.out) GEC.out) hb)
 have HM:=Aside0.mk hm
 clear HB hb hm hge
 (try clear hczC);(try clear hczC1);(try clear hfzC);(try clear hfzC1);(try clear BKC);(try clear GEC)
 have HB:=n0_
 clear n0_
 by_cases hk:a0 = 0 ∨ a0 = 1 ∨ a0 = 2 ∨ a0 = 3 ∨ a0 = 4
 case neg =>
  have hn:∀ j:Int,(j = 0 ∨ j = 1 ∨ j = 2 ∨ j = 3 ∨ j = 4) → (a0 == j) = false:=fun j hj=>by
   rw [beq_eq_false_iff_ne]
   rintro rfl
   exact hk hj
  have hl:=run_look_no w3 Try.underlying104 Try.underlying3 (z:=.nilFunc) (by kernel_rfl) HM.out (j:=a0) (by
   show Instr.findNow (.int .i64) (.int .i64 a0) [_,_,_,_,_] 0 = _
   simp only [Instr.findNow,Instr.sameNow,if_true,hn 0 (by decide),hn 1 (by decide),hn 2 (by decide),hn 3 (by decide),hn 4 (by decide)])
  have h:=H.out
  rw [if_neg (fun e=>hk (.inl e)),if_neg (fun e=>hk (.inr (.inl e))),if_neg (fun e=>hk (.inr (.inr (.inl e)))),if_neg (fun e=>hk (.inr (.inr (.inr (.inl e))))),if_neg (fun e=>hk (.inr (.inr (.inr (.inr e))))),ite_self] at h
  simp only [Option.some.injEq,Prod.mk.injEq] at h
  obtain ⟨rfl,rfl⟩:=h
  clear hn hk H
  cases ok
  all_goals
   go_wp2_with fail
   go_ret2
   exact ⟨_,rfl,Kd.R_nil _ _ _ _ _,HB.out⟩
 rcases hk with rfl | rfl | rfl | rfl | rfl
 ·have hl:=run_look w3 Try.underlying104 Try.underlying3 HM.out (j:=0) (i:=0) (v:=boundF 97 A1 l1.length c1 a2) (by rfl)
  unfold boundF at hl
  cases ok with
  | false =>
   have h:=H.out
   rw [if_neg (by decide)] at h
   simp only [Option.some.injEq,Prod.mk.injEq] at h
   obtain ⟨rfl,rfl⟩:=h
   go_wp2_with fail
   go_ret2
   exact ⟨_,rfl,Kd.R_nil _ _ _ _ _,HB.out⟩
  | true =>
   have h:=H.out
   rw [if_pos rfl] at h
   rw [if_pos (by rfl)] at h
   obtain ⟨x,hx,h⟩:=Option.bind_eq_some_iff.1 h
   simp only [Option.some.injEq,Prod.mk.injEq] at h
   obtain ⟨rfl,rfl⟩:=h
   have HX:=Aside0.mk hx
   clear hx H
   go_wp2_with fail
   refine (shares_claims_proportional.calls k A1 c1 l1 a2 x _ (Kd.C_below HR1.out HB.out) HC1.out HX.out).mono ?_
   rintro e w5 ⟨v,rfl,hr,hb⟩
   have HR5:=Aside0.mk (Kd.R_lower hr HB.out.size)
   have HB5:=Aside0.mk (below_step HB.out hb)
   clear hr hb hl
   go_wp2
   go_ret2
   exact ⟨_,rfl,HR5.out,HB5.out⟩
 ·have hl:=run_look w3 Try.underlying104 Try.underlying3 HM.out (j:=1) (i:=1) (v:=boundF 98 A1 l1.length c1 a2) (by rfl)
  unfold boundF at hl
  cases ok with
  | false =>
   have h:=H.out
   rw [if_neg (by decide)] at h
   simp only [Option.some.injEq,Prod.mk.injEq] at h
   obtain ⟨rfl,rfl⟩:=h
   go_wp2_with fail
   go_ret2
   exact ⟨_,rfl,Kd.R_nil _ _ _ _ _,HB.out⟩
  | true =>
   have h:=H.out
   rw [if_pos rfl] at h
   rw [if_neg (by decide)] at h;rw [if_pos (by rfl)] at h
   obtain ⟨x,hx,h⟩:=Option.bind_eq_some_iff.1 h
   simp only [Option.some.injEq,Prod.mk.injEq] at h
   obtain ⟨rfl,rfl⟩:=h
   have HX:=Aside0.mk hx
   clear hx H
   go_wp2_with fail
   refine (shares_claims_awards.calls k A1 c1 l1 a2 x _ (Kd.C_below HR1.out HB.out) HC1.out HX.out).mono ?_
   rintro e w5 ⟨v,rfl,hr,hb⟩
   have HR5:=Aside0.mk (Kd.R_lower hr HB.out.size)
   have HB5:=Aside0.mk (below_step HB.out hb)
   clear hr hb hl
   go_wp2
   go_ret2
   exact ⟨_,rfl,HR5.out,HB5.out⟩
 ·have hl:=run_look w3 Try.underlying104 Try.underlying3 HM.out (j:=2) (i:=2) (v:=boundF 99 A1 l1.length c1 a2) (by rfl)
  unfold boundF at hl
  cases ok with
  | false =>
   have h:=H.out
   rw [if_neg (by decide)] at h
   simp only [Option.some.injEq,Prod.mk.injEq] at h
   obtain ⟨rfl,rfl⟩:=h
   go_wp2_with fail
   go_ret2
   exact ⟨_,rfl,Kd.R_nil _ _ _ _ _,HB.out⟩
  | true =>
   have h:=H.out
   rw [if_pos rfl] at h
   rw [if_neg (by decide)] at h;rw [if_neg (by decide)] at h;rw [if_pos (by rfl)] at h
   obtain ⟨x,hx,h⟩:=Option.bind_eq_some_iff.1 h
   simp only [Option.some.injEq,Prod.mk.injEq] at h
   obtain ⟨rfl,rfl⟩:=h
   have HX:=Aside0.mk hx
   clear hx H
   go_wp2_with fail
   refine (shares_claims_losses.calls k A1 c1 l1 a2 x _ (Kd.C_below HR1.out HB.out) HC1.out HX.out).mono ?_
   rintro e w5 ⟨v,rfl,hr,hb⟩
   have HR5:=Aside0.mk (Kd.R_lower hr HB.out.size)
   have HB5:=Aside0.mk (below_step HB.out hb)
   clear hr hb hl
   go_wp2
   go_ret2
   exact ⟨_,rfl,HR5.out,HB5.out⟩
 ·have hl:=run_look w3 Try.underlying104 Try.underlying3 HM.out (j:=3) (i:=3) (v:=boundF 100 A1 l1.length c1 a2) (by rfl)
  unfold boundF at hl
  cases ok with
  | false =>
   have h:=H.out
   rw [if_neg (by decide)] at h
   simp only [Option.some.injEq,Prod.mk.injEq] at h
   obtain ⟨rfl,rfl⟩:=h
   go_wp2_with fail
   go_ret2
   exact ⟨_,rfl,Kd.R_nil _ _ _ _ _,HB.out⟩
  | true =>
   have h:=H.out
   rw [if_pos rfl] at h
   rw [if_neg (by decide)] at h;rw [if_neg (by decide)] at h;rw [if_neg (by decide)] at h;rw [if_pos (by rfl)] at h
   obtain ⟨x,hx,h⟩:=Option.bind_eq_some_iff.1 h
   simp only [Option.some.injEq,Prod.mk.injEq] at h
   obtain ⟨rfl,rfl⟩:=h
   have HX:=Aside0.mk hx
   clear hx H
   go_wp2_with fail
   refine (shares_claims_talmud.calls k A1 c1 l1 a2 x _ (Kd.C_below HR1.out HB.out) HC1.out HX.out).mono ?_
   rintro e w5 ⟨v,rfl,hr,hb⟩
   have HR5:=Aside0.mk (Kd.R_lower hr HB.out.size)
   have HB5:=Aside0.mk (below_step HB.out hb)
   clear hr hb hl
   go_wp2
   go_ret2
   exact ⟨_,rfl,HR5.out,HB5.out⟩
 have hl:=run_look w3 Try.underlying104 Try.underlying3 HM.out (j:=4) (i:=4) (v:=boundF 101 A1 l1.length c1 a2) (by rfl)
 unfold boundF at hl
 cases ok with
 | false =>
  have h:=H.out
  rw [if_neg (by decide)] at h
  simp only [Option.some.injEq,Prod.mk.injEq] at h
  obtain ⟨rfl,rfl⟩:=h
  go_wp2_with fail
  go_ret2
  exact ⟨_,rfl,Kd.R_nil _ _ _ _ _,HB.out⟩
 | true =>
  have h:=H.out
  rw [if_pos rfl] at h
  rw [if_neg (by decide)] at h;rw [if_neg (by decide)] at h;rw [if_neg (by decide)] at h;rw [if_neg (by decide)] at h;rw [if_pos (by rfl)] at h
  obtain ⟨x,hx,h⟩:=Option.bind_eq_some_iff.1 h
  simp only [Option.some.injEq,Prod.mk.injEq] at h
  obtain ⟨rfl,rfl⟩:=h
  have HX:=Aside0.mk hx
  clear hx H
  go_wp2_with fail
  refine (shares_claims_piniles.calls k A1 c1 l1 a2 x _ (Kd.C_below HR1.out HB.out) HC1.out HX.out).mono ?_
  rintro e w5 ⟨v,rfl,hr,hb⟩
  have HR5:=Aside0.mk (Kd.R_lower hr HB.out.size)
  have HB5:=Aside0.mk (below_step HB.out hb)
  clear hr hb hl
  go_wp2
  go_ret2
  exact ⟨_,rfl,HR5.out,HB5.out⟩
end Go.Proofs.Ytjohcjfmlhihbaa.G
namespace Go.Proofs.Ytjohcjfmlhihbaa.G
open Go.RowKit Go.Proofs.YtjohcjfmlhihbaaW.PrintWords Go.Proofs.YtjohcjfmlhihbaaW.PrintLast Go.Proofs.YtjohcjfmlhihbaaW.PrintMore
set_option maxHeartbeats 8000000
set_option maxRecDepth 100000
attribute [local go_sem] cond_true cond_false fld23_0 fld23_1 fld45_0 fld45_1 fld109_0 fld109_1 fld94_0 fld94_1 max2_int min2_int max_two min_two max_three min_three max_four min_four
attribute [local go_sem high] eqA23
def numnahlaw07_awake.j0:Nat → Bool → Option (Bool)
 | 0,_=>none
 | k + 1,x72=>if x72 = true then (some false) else (some true)
def numnahlaw07_awake.f (k:Nat)  : Option (Bool):=(shares_Award.f k 3 (([100,200,300]:List Int)) 300).bind fun i9=>((shares_Garment.f k 100 50 100).bind fun e9=>((shares_Fair.f k (([10,4]:List Int)) (([(⟨1,(([0,1]:List Int))⟩:S45),(⟨1,(([0]:List Int))⟩:S45)]:List (S45)))).bind fun d3=>(if i9.2 = 0 then ((numnahref07_Whole.f 50).bind fun d9=>((numnahref07_Whole.f 100).bind fun e0=>((numnahref07_Whole.f 150).bind fun e1=>((numnahref07_Same.f k i9.1 (([(⟨d9.1,d9.2⟩:S23),(⟨e0.1,e0.2⟩:S23),(⟨e1.1,e1.2⟩:S23)]:List (S23)))).bind fun h0=>(if h0 = true then (if e9.2.2.2.2 = 0 then ((numnahref07_Whole.f 25).bind fun c1=>(if (!(e9.1 == c1.1) || (!(e9.2.1 == c1.2))) = true then (numnahlaw07_awake.j0 k true) else ((numnahref07_Whole.f 75).bind fun d0=>(if (!(e9.2.2.1 == d0.1) || (!(e9.2.2.2.1 == d0.2))) = true then (numnahlaw07_awake.j0 k true) else (if d3.2.2 = 0 then ((numnahref07_Whole.f 4).bind fun d1=>((numnahref07_Whole.f 6).bind fun d2=>((numnahref07_Same.f k d3.1 (([(⟨d1.1,d1.2⟩:S23),(⟨d2.1,d2.2⟩:S23)]:List (S23)))).bind fun e8=>(if e8 = true then ((numnahlaw07_ints.f k d3.2.1 (([1,0]:List Int))).bind fun d4=>(numnahlaw07_awake.j0 k (!d4))) else (numnahlaw07_awake.j0 k true))))) else (numnahlaw07_awake.j0 k true)))))) else (numnahlaw07_awake.j0 k true)) else (numnahlaw07_awake.j0 k true)))))) else (numnahlaw07_awake.j0 k true))))
theorem numnahlaw07_awake.mono_l:∀ k,(∀ y0,LeO (numnahlaw07_awake.j0 k y0) (numnahlaw07_awake.j0 (k + 1) y0))
 | 0=>fun _ r h=>by simp [numnahlaw07_awake.j0] at h
 | k + 1=>by
  have y3:=numnahlaw07_awake.mono_l k
  intro y0
  unfold numnahlaw07_awake.j0
  repeat' first
  | (with_reducible first | exact y3 _ | exact numnahlaw07_ints.mono _ _ _ | exact numnahref07_Same.mono _ _ _ | exact shares_Award.mono _ _ _ _ | exact shares_Fair.mono _ _ _ | exact shares_Garment.mono _ _ _ _ | exact LeO.refl _ | exact LeO.none _ | refine LeO.ite ?_ ?_ | refine LeO.bind ?_ (fun _=>?_))
  | exact LeO.none _ | refine LeO.ite ?_ ?_ | refine LeO.bind ?_ (fun _=>?_)
theorem numnahlaw07_awake.mono:∀ k,LeO (numnahlaw07_awake.f k ) (numnahlaw07_awake.f (k + 1) ):=by
 intro  k
 have y3:=numnahlaw07_awake.mono_l k
 unfold numnahlaw07_awake.f
 repeat' first
   | (with_reducible first | exact y3 _ | exact numnahlaw07_ints.mono _ _ _ | exact numnahref07_Same.mono _ _ _ | exact shares_Award.mono _ _ _ _ | exact shares_Fair.mono _ _ _ | exact shares_Garment.mono _ _ _ _ | exact LeO.refl _ | exact LeO.none _ | refine LeO.ite ?_ ?_ | refine LeO.bind ?_ (fun _=>?_))
   | exact LeO.none _ | refine LeO.ite ?_ ?_ | refine LeO.bind ?_ (fun _=>?_)
def numnahlaw07_awake.T4:Bool × List (List Nat × List Nat):=(true,[([],[]),([0],[0]),([1],[1]),([2],[2]),([2,2],[2]),([4,2],[2]),([5,2],[2]),([4,5,6,2],[2,4,5,6]),([3,7,6,2],[2,3,7]),([8,2],[2,8]),([2,9],[2,9]),([10,8],[10]),([11],[11]),([12,11],[11,12]),([11,13],[11,13]),([14,11],[14]),([15],[15]),([15,15],[15]),([16,17,15],[15,16,17]),([15,18],[15,18]),([19,17],[19]),([20],[20]),([20,20],[20]),([21,22,20],[20,21,22]),([20,23],[20,23]),([24,22],[24]),([25],[25]),([26,25],[25,26]),([25,27],[25,27]),([28,25],[28]),([29],[29]),([29,29],[29]),([31,29],[29]),([31,32,29],[29,31,32]),([30,33,32,29],[29,30,33]),([34,29],[29,34]),([29,35],[29,35]),([36,34],[36]),([37],[37]),([37],[37]),([38,39,37,37],[37,38,39]),([40,37],[37,40]),([37,41],[37,41])])
def numnahlaw07_awake.B4:List Nat:=[0,1,3,7,7,23,55,119,255,511,1023,2047,4095,8191,16383,32767,65535,65535,262143,524287,1048575,2097151,2097151,8388607,16777215,33554431,67108863,134217727,268435455,536870911,1073741823,1073741823,3221225471,7516192767,17179869183,34359738367,68719476735,137438953471,274877906943,274877906943,1099511627775,2199023255551,4398046511103]
theorem numnahlaw07_awake.tab4:rtab .any (opsOf Try.f22 4) = numnahlaw07_awake.T4:=by kernel_rfl
theorem numnahlaw07_awake.bits4:waitsOk numnahlaw07_awake.T4.2 numnahlaw07_awake.B4 = true:=by kernel_rfl
theorem j0_no:∀ k,numnahlaw07_awake.j0 k true ≠ some true:=by
 intro k
 cases k <;> simp [numnahlaw07_awake.j0]
theorem numnahlaw07_awake.callsT (k:Nat)  (r:Bool) (w:World) (h:numnahlaw07_awake.f k  = some r) (hrt_:r = true) :
  Calls Try.prog 22 #[] w fun e w'=>e = .returned (.bool r) ∧ Below w.heap.size w w':=by
 have HRT:=A_ hrt_
 clear hrt_
 have C8:=Try.underlying23
 have C9:=Try.underlying45
 have HB:=A_ (Below.refl w.heap.size w)
 have H:((shares_Award.f k 3 (([100,200,300]:List Int)) 300).bind fun i9=>((shares_Garment.f k 100 50 100).bind fun e9=>((shares_Fair.f k (([10,4]:List Int)) (([(⟨1,(([0,1]:List Int))⟩:S45),(⟨1,(([0]:List Int))⟩:S45)]:List (S45)))).bind fun d3=>(if i9.2 = 0 then ((numnahref07_Whole.f 50).bind fun d9=>((numnahref07_Whole.f 100).bind fun e0=>((numnahref07_Whole.f 150).bind fun e1=>((numnahref07_Same.f k i9.1 (([(⟨d9.1,d9.2⟩:S23),(⟨e0.1,e0.2⟩:S23),(⟨e1.1,e1.2⟩:S23)]:List (S23)))).bind fun h0=>(if h0 = true then (if e9.2.2.2.2 = 0 then ((numnahref07_Whole.f 25).bind fun c1=>(if (!(e9.1 == c1.1) || (!(e9.2.1 == c1.2))) = true then (numnahlaw07_awake.j0 k true) else ((numnahref07_Whole.f 75).bind fun d0=>(if (!(e9.2.2.1 == d0.1) || (!(e9.2.2.2.1 == d0.2))) = true then (numnahlaw07_awake.j0 k true) else (if d3.2.2 = 0 then ((numnahref07_Whole.f 4).bind fun d1=>((numnahref07_Whole.f 6).bind fun d2=>((numnahref07_Same.f k d3.1 (([(⟨d1.1,d1.2⟩:S23),(⟨d2.1,d2.2⟩:S23)]:List (S23)))).bind fun e8=>(if e8 = true then ((numnahlaw07_ints.f k d3.2.1 (([1,0]:List Int))).bind fun d4=>(numnahlaw07_awake.j0 k (!d4))) else (numnahlaw07_awake.j0 k true))))) else (numnahlaw07_awake.j0 k true)))))) else (numnahlaw07_awake.j0 k true)) else (numnahlaw07_awake.j0 k true)))))) else (numnahlaw07_awake.j0 k true))))) = some r:=h
 clear h
 obtain ⟨i1,n0⟩:∃ y_:List Int,y_ = (([100,200,300]:List Int)):=⟨_,rfl⟩
 rw [← n0] at H
 have o6:=A_ n0
 clear n0
 replace H:=Option.bind_eq_some_iff.mp H
 obtain ⟨⟨h8,i2⟩,A10,H⟩:=H
 dsimp only at H
 have A1:=A_ A10
 clear A10
 replace H:=Option.bind_eq_some_iff.mp H
 obtain ⟨⟨d5,d7,d6,d8,h7⟩,A20,H⟩:=H
 dsimp only at H
 have A2:=A_ A20
 clear A20
 obtain ⟨n1,n2⟩:∃ y_:List Int,y_ = (([10,4]:List Int)):=⟨_,rfl⟩
 rw [← n2] at H
 have o7:=A_ n2
 clear n2
 obtain ⟨j5,n3⟩:∃ y_:List Int,y_ = (([0,1]:List Int)):=⟨_,rfl⟩
 replace H:((shares_Fair.f k n1 (([(⟨1,j5⟩:S45),(⟨1,(([0]:List Int))⟩:S45)]:List (S45)))).bind fun d3=>(if i2 = 0 then ((numnahref07_Whole.f 50).bind fun d9=>((numnahref07_Whole.f 100).bind fun e0=>((numnahref07_Whole.f 150).bind fun e1=>((numnahref07_Same.f k h8 (([(⟨d9.1,d9.2⟩:S23),(⟨e0.1,e0.2⟩:S23),(⟨e1.1,e1.2⟩:S23)]:List (S23)))).bind fun h0=>(if h0 = true then (if h7 = 0 then ((numnahref07_Whole.f 25).bind fun c1=>(if (!(d5 == c1.1) || (!(d7 == c1.2))) = true then (numnahlaw07_awake.j0 k true) else ((numnahref07_Whole.f 75).bind fun d0=>(if (!(d6 == d0.1) || (!(d8 == d0.2))) = true then (numnahlaw07_awake.j0 k true) else (if d3.2.2 = 0 then ((numnahref07_Whole.f 4).bind fun d1=>((numnahref07_Whole.f 6).bind fun d2=>((numnahref07_Same.f k d3.1 (([(⟨d1.1,d1.2⟩:S23),(⟨d2.1,d2.2⟩:S23)]:List (S23)))).bind fun e8=>(if e8 = true then ((numnahlaw07_ints.f k d3.2.1 (([1,0]:List Int))).bind fun d4=>(numnahlaw07_awake.j0 k (!d4))) else (numnahlaw07_awake.j0 k true))))) else (numnahlaw07_awake.j0 k true)))))) else (numnahlaw07_awake.j0 k true)) else (numnahlaw07_awake.j0 k true)))))) else (numnahlaw07_awake.j0 k true))) = some r:=by rw [n3];exact H
 have o8:=A_ n3
 clear n3
 obtain ⟨l7,n4⟩:∃ y_:List Int,y_ = (([0]:List Int)):=⟨_,rfl⟩
 replace H:((shares_Fair.f k n1 (([(⟨1,j5⟩:S45),(⟨1,l7⟩:S45)]:List (S45)))).bind fun d3=>(if i2 = 0 then ((numnahref07_Whole.f 50).bind fun d9=>((numnahref07_Whole.f 100).bind fun e0=>((numnahref07_Whole.f 150).bind fun e1=>((numnahref07_Same.f k h8 (([(⟨d9.1,d9.2⟩:S23),(⟨e0.1,e0.2⟩:S23),(⟨e1.1,e1.2⟩:S23)]:List (S23)))).bind fun h0=>(if h0 = true then (if h7 = 0 then ((numnahref07_Whole.f 25).bind fun c1=>(if (!(d5 == c1.1) || (!(d7 == c1.2))) = true then (numnahlaw07_awake.j0 k true) else ((numnahref07_Whole.f 75).bind fun d0=>(if (!(d6 == d0.1) || (!(d8 == d0.2))) = true then (numnahlaw07_awake.j0 k true) else (if d3.2.2 = 0 then ((numnahref07_Whole.f 4).bind fun d1=>((numnahref07_Whole.f 6).bind fun d2=>((numnahref07_Same.f k d3.1 (([(⟨d1.1,d1.2⟩:S23),(⟨d2.1,d2.2⟩:S23)]:List (S23)))).bind fun e8=>(if e8 = true then ((numnahlaw07_ints.f k d3.2.1 (([1,0]:List Int))).bind fun d4=>(numnahlaw07_awake.j0 k (!d4))) else (numnahlaw07_awake.j0 k true))))) else (numnahlaw07_awake.j0 k true)))))) else (numnahlaw07_awake.j0 k true)) else (numnahlaw07_awake.j0 k true)))))) else (numnahlaw07_awake.j0 k true))) = some r:=by rw [n4];exact H
 have o9:=A_ n4
 clear n4
 obtain ⟨p9,n5⟩:∃ y_:List (S45),y_ = (([(⟨1,j5⟩:S45),(⟨1,l7⟩:S45)]:List (S45))):=⟨_,rfl⟩
 replace H:((shares_Fair.f k n1 p9).bind fun d3=>(if i2 = 0 then ((numnahref07_Whole.f 50).bind fun d9=>((numnahref07_Whole.f 100).bind fun e0=>((numnahref07_Whole.f 150).bind fun e1=>((numnahref07_Same.f k h8 (([(⟨d9.1,d9.2⟩:S23),(⟨e0.1,e0.2⟩:S23),(⟨e1.1,e1.2⟩:S23)]:List (S23)))).bind fun h0=>(if h0 = true then (if h7 = 0 then ((numnahref07_Whole.f 25).bind fun c1=>(if (!(d5 == c1.1) || (!(d7 == c1.2))) = true then (numnahlaw07_awake.j0 k true) else ((numnahref07_Whole.f 75).bind fun d0=>(if (!(d6 == d0.1) || (!(d8 == d0.2))) = true then (numnahlaw07_awake.j0 k true) else (if d3.2.2 = 0 then ((numnahref07_Whole.f 4).bind fun d1=>((numnahref07_Whole.f 6).bind fun d2=>((numnahref07_Same.f k d3.1 (([(⟨d1.1,d1.2⟩:S23),(⟨d2.1,d2.2⟩:S23)]:List (S23)))).bind fun e8=>(if e8 = true then ((numnahlaw07_ints.f k d3.2.1 (([1,0]:List Int))).bind fun d4=>(numnahlaw07_awake.j0 k (!d4))) else (numnahlaw07_awake.j0 k true))))) else (numnahlaw07_awake.j0 k true)))))) else (numnahlaw07_awake.j0 k true)) else (numnahlaw07_awake.j0 k true)))))) else (numnahlaw07_awake.j0 k true))) = some r:=by rw [n5];exact H
 have p0:=A_ n5
 clear n5
 replace H:=Option.bind_eq_some_iff.mp H
 obtain ⟨⟨m8,j7,i3⟩,q3,H⟩:=H
 dsimp only at H
 have A3:=A_ q3
 clear q3
 have y4:=A_ H
 clear H
 go_enter Try.func22,Try.ntmps22
 go_upto_region 4 with (first | ((with_reducible refine gate_dst (N:=10) rfl ?_);(try (refine gate_guard (by rfl) ?_;dsimp only));refine Kd.R_lit (Kd.int .i64) _ 3 ?hg (N:=10) ?hd (xs:=([100,200,300]:List Int)) (inner:=[.int .i64 100,.int .i64 200,.int .i64 300]) (ok:=fun _=>True) (okp:=fun _=>True) ?hr ?hp (fun _ hk=>hk) trivial (Below.refl _ _) (Nat.le_refl _) (by simp) ?_;(case hd=>rfl);(case hg=>rfl);(case hr=>first | (go_simp;done) | (go_simp;rfl));(case hp=>exact (Reps.one (show Kd.M (Kd.int .i64) _ _ _ 100 [.int .i64 100] from rfl) (Reps.one (show Kd.M (Kd.int .i64) _ _ _ 200 [.int .i64 200] from rfl) (Reps.one (show Kd.M (Kd.int .i64) _ _ _ 300 [.int .i64 300] from rfl) (Reps.none _ _)))));intro D0 w5 q4 hb hg_ hnew_;clear hg_ hnew_;(first | rw [← o6.out] at q4 | (simp only [Int.reduceToNat] at q4;rw [← o6.out] at q4));have b3:=A_ (Kd.R_lower q4 (below_size (bl HB)));replace HB:=bB HB hb;clear hb q4;obtain ⟨p1,p2,D1⟩:=Kd.R_slice b3.out;subst D1) | ((with_reducible refine gate_callee (f:=26) rfl ?_);refine gL (some 11) Try.func26 #[.int .i64 3,.slice p1 i1.length p2,.int .i64 300] ?_;(with_reducible refine (shares_Award.calls k 3 _ _ i1 300 h8 i2 _ ?side1 ?side2 A1.out).mono ?_);(case side1=>repeat (first | exact (Kd.R_reads' b3.out).2.2 | (with_reducible refine Kd.C_alloc ?_ _) | (with_reducible refine Kd.C_drewN ?_ _) | (with_reducible refine Kd.C_drew ?_)));(case side2=>exact (Kd.R_reads' b3.out).2.1);rintro e w8 ⟨l8,rfl,q5,hb⟩;refine ⟨_,rfl,?_⟩;have b0:=A_ (Kd.R_lower q5 (below_size (bl HB)));replace b3:=rB b3 hb;replace HB:=bB HB hb;(try clear hb)) | ((with_reducible refine gate_callee (f:=20) rfl ?_);refine gL (some 15) Try.func20 #[.int .i64 100,.int .i64 50,.int .i64 100] ?_;(with_reducible refine (shares_Garment.calls k 100 50 100 d5 d7 d6 d8 h7 _ A2.out).mono ?_);rintro e w9 ⟨rfl,hb⟩;refine ⟨_,rfl,?_⟩;replace b3:=rB b3 hb;replace b0:=rB b0 hb;replace HB:=bB HB hb;(try clear hb)) | ((with_reducible refine gate_dst (N:=3) rfl ?_);(try (refine gate_guard (by rfl) ?_;dsimp only));refine bx 3 #[.int .i64 0,.int .i64 0] 23 ?_;intro b8 hg F9 hbox hb;have b1:=A_ hbox;have q6:=gw hg HB;have C0:=q6;replace b3:=rB b3 hb;replace b0:=A_ (Kd.R_below (Kd.R_elderB b0.out b8 (Nat.le_of_eq hg.symm)) hb);replace HB:=bB HB hb;clear hb hbox hg) | ((with_reducible refine gate_dst (N:=4) rfl ?_);(try (refine gate_guard (by rfl) ?_;dsimp only));refine bx 4 #[.int .i64 0,.int .i64 0] 23 ?_;intro b9 hg t7 hbox hb;have b2:=A_ hbox;have q7:=gw hg HB;have C1:=q7;have h3:=nl hg b1;have h4:=ng hg b1;replace b3:=rB b3 hb;replace b0:=A_ (Kd.R_below (Kd.R_elderB b0.out b9 (Nat.le_of_eq hg.symm)) hb);replace b1:=kB b1 hb;replace HB:=bB HB hb;clear hb hbox hg;have C2:=h3.out;have C3:=h4.out;have t8:t7.cell? ⟨b8,0,none⟩ = some (.int .i64 0):=cz b1 0;have t9:t7.cell? ⟨b8,1,none⟩ = some (.int .i64 0):=cz b1 1;have x0:=blk_frozen b1.out 0;have x1:=blk_frozen b1.out 1;have x2:t7.cell? ⟨b9,0,none⟩ = some (.int .i64 0):=cz b2 0;have x3:t7.cell? ⟨b9,1,none⟩ = some (.int .i64 0):=cz b2 1;have x4:=blk_frozen b2.out 0;have x5:=blk_frozen b2.out 1) | ((with_reducible refine gate_dst (N:=20) rfl ?_);(try (refine gate_guard (by rfl) ?_;dsimp only));refine Kd.R_lit (Kd.int .i64) _ 3 ?hg (N:=20) ?hd (xs:=([10,4]:List Int)) (inner:=[.int .i64 10,.int .i64 4]) (ok:=fun _=>True) (okp:=fun _=>True) ?hr ?hp (fun _ hk=>hk) trivial (Below.refl _ _) (Nat.le_refl _) (by simp) ?_;(case hd=>rfl);(case hg=>rfl);(case hr=>first | (go_simp;done) | (go_simp;rfl));(case hp=>exact (Reps.one (show Kd.M (Kd.int .i64) _ _ _ 10 [.int .i64 10] from rfl) (Reps.one (show Kd.M (Kd.int .i64) _ _ _ 4 [.int .i64 4] from rfl) (Reps.none _ _))));intro l9 G0 m9 hb hg_ hnew_;clear hg_ hnew_;(first | rw [← o7.out] at m9 | (simp only [Int.reduceToNat] at m9;rw [← o7.out] at m9));have b4:=A_ (Kd.R_lower (Kd.R_new' m9 (Kd.R_lt (by (with_reducible repeat (first | apply Kd.R_alloc | apply Kd.R_drewN | apply Kd.R_drew));exact (Kd.R_mono (Kd.R_mono (Kd.R_far (p:=⟨b9,1,none⟩) (Kd.R_far (p:=⟨b9,0,none⟩) (Kd.R_far (p:=⟨b8,1,none⟩) (Kd.R_far (p:=⟨b8,0,none⟩) (Kd.R_types (Kd.R_types b3.out b1.out (by decide)) b2.out (by decide)) (fun _ hk=>hk.1.2) (.int .i64 d5)) (fun _ hk=>hk.1.2) (.int .i64 d7)) (fun _ hk=>hk.2) (.int .i64 d6)) (fun _ hk=>hk.2) (.int .i64 d8)) (fun _ h_=>h_.1)) (fun _ h_=>h_.1))))) (below_size (bl HB)));replace b3:=A_ (Kd.R_elder' (by (with_reducible repeat (first | apply Kd.R_alloc | apply Kd.R_drewN | apply Kd.R_drew));exact (Kd.R_mono (Kd.R_mono (Kd.R_far (p:=⟨b9,1,none⟩) (Kd.R_far (p:=⟨b9,0,none⟩) (Kd.R_far (p:=⟨b8,1,none⟩) (Kd.R_far (p:=⟨b8,0,none⟩) (Kd.R_types (Kd.R_types b3.out b1.out (by decide)) b2.out (by decide)) (fun _ hk=>hk.1.2) (.int .i64 d5)) (fun _ hk=>hk.1.2) (.int .i64 d7)) (fun _ hk=>hk.2) (.int .i64 d6)) (fun _ hk=>hk.2) (.int .i64 d8)) (fun _ h_=>h_.1)) (fun _ h_=>h_.1))) (Kd.R_base m9) hb);replace b0:=A_ (Kd.R_below (by (with_reducible repeat (first | apply Kd.R_alloc | apply Kd.R_drewN | apply Kd.R_drew));exact (Kd.R_mono (Kd.R_mono (Kd.R_far (p:=⟨b9,1,none⟩) (Kd.R_far (p:=⟨b9,0,none⟩) (Kd.R_far (p:=⟨b8,1,none⟩) (Kd.R_far (p:=⟨b8,0,none⟩) (Kd.R_mono (Kd.R_mono b0.out (fun k_ hk=>(⟨hk,hk.1.2⟩:_ ∧ k_ ≠ b8))) (fun k_ hk=>(⟨hk,hk.1.2⟩:_ ∧ k_ ≠ b9))) (fun _ hk=>hk.1.2) (.int .i64 d5)) (fun _ hk=>hk.1.2) (.int .i64 d7)) (fun _ hk=>hk.2) (.int .i64 d6)) (fun _ hk=>hk.2) (.int .i64 d8)) (fun _ h_=>h_.1)) (fun _ h_=>h_.1))) hb);replace b1:=A_ (blk_below (g:=b8) (o:=.cells #[.int .i64 d5,.int .i64 d7] 23 (0,0)) (by (with_reducible repeat (first | refine blk_drewN ?_ _ | refine blk_drew ?_ | refine blk_alloc ?_ _));refine blk_far ?_ h3.out _;(with_reducible repeat (first | refine blk_drewN ?_ _ | refine blk_drew ?_ | refine blk_alloc ?_ _));refine blk_far ?_ h3.out _;(with_reducible repeat (first | refine blk_drewN ?_ _ | refine blk_drew ?_ | refine blk_alloc ?_ _));refine blk_put (cs:=#[.int .i64 d5,.int .i64 0]) ?_ 1 _ rfl;(with_reducible repeat (first | refine blk_drewN ?_ _ | refine blk_drew ?_ | refine blk_alloc ?_ _));refine blk_put (cs:=#[.int .i64 0,.int .i64 0]) ?_ 0 _ rfl;(with_reducible repeat (first | refine blk_drewN ?_ _ | refine blk_drew ?_ | refine blk_alloc ?_ _));exact b1.out) hb);replace b2:=A_ (blk_below (g:=b9) (o:=.cells #[.int .i64 d6,.int .i64 d8] 23 (0,0)) (by (with_reducible repeat (first | refine blk_drewN ?_ _ | refine blk_drew ?_ | refine blk_alloc ?_ _));refine blk_put (cs:=#[.int .i64 d6,.int .i64 0]) ?_ 1 _ rfl;(with_reducible repeat (first | refine blk_drewN ?_ _ | refine blk_drew ?_ | refine blk_alloc ?_ _));refine blk_put (cs:=#[.int .i64 0,.int .i64 0]) ?_ 0 _ rfl;(with_reducible repeat (first | refine blk_drewN ?_ _ | refine blk_drew ?_ | refine blk_alloc ?_ _));refine blk_far ?_ h4.out _;(with_reducible repeat (first | refine blk_drewN ?_ _ | refine blk_drew ?_ | refine blk_alloc ?_ _));refine blk_far ?_ h4.out _;(with_reducible repeat (first | refine blk_drewN ?_ _ | refine blk_drew ?_ | refine blk_alloc ?_ _));exact b2.out) hb);replace HB:=bB HB hb;clear hb m9) | ((with_reducible refine gate_dst (N:=21) rfl ?_);(try (refine gate_guard (by rfl) ?_;dsimp only));refine Kd.R_lit (Kd.int .i64) _ 3 ?hg (N:=21) ?hd (xs:=([0,1]:List Int)) (inner:=[.int .i64 0,.int .i64 1]) (ok:=fun _=>True) (okp:=fun _=>True) ?hr ?hp (fun _ hk=>hk) trivial (Below.refl _ _) (Nat.le_refl _) (by simp) ?_;(case hd=>rfl);(case hg=>rfl);(case hr=>first | (go_simp;done) | (go_simp;rfl));(case hp=>exact (Reps.one (show Kd.M (Kd.int .i64) _ _ _ 0 [.int .i64 0] from rfl) (Reps.one (show Kd.M (Kd.int .i64) _ _ _ 1 [.int .i64 1] from rfl) (Reps.none _ _))));intro D2 G1 m0 hb hg_ hnew_;clear hg_ hnew_;(first | rw [← o8.out] at m0 | (simp only [Int.reduceToNat] at m0;rw [← o8.out] at m0));have h9:=A_ (Kd.R_lower (Kd.R_new' (Kd.R_new' m0 (Kd.R_lt b3.out)) (Kd.R_lt b4.out)) (below_size (bl HB)));replace b3:=A_ (Kd.R_elder' b3.out (Kd.R_base m0) hb);replace b0:=rB b0 hb;replace b4:=A_ (Kd.R_elder' b4.out (Kd.R_base m0) hb);replace b1:=kB b1 hb;replace b2:=kB b2 hb;replace HB:=bB HB hb;clear hb m0;obtain ⟨q8,q9,y5⟩:=Kd.R_slice h9.out;subst y5) | ((with_reducible refine gate_dst (N:=23) rfl ?_);(try (refine gate_guard (by rfl) ?_;dsimp only));refine Kd.R_lit (Kd.int .i64) _ 3 ?hg (N:=23) ?hd (xs:=([0]:List Int)) (inner:=[.int .i64 0]) (ok:=fun _=>True) (okp:=fun _=>True) ?hr ?hp (fun _ hk=>hk) trivial (Below.refl _ _) (Nat.le_refl _) (by simp) ?_;(case hd=>rfl);(case hg=>rfl);(case hr=>first | (go_simp;done) | (go_simp;rfl));(case hp=>exact (Reps.one (show Kd.M (Kd.int .i64) _ _ _ 0 [.int .i64 0] from rfl) (Reps.none _ _)));intro D3 D4 j8 hb hg_ hnew_;clear hg_ hnew_;(first | rw [← o9.out] at j8 | (simp only [Int.reduceToNat] at j8;rw [← o9.out] at j8));have m6:=A_ (Kd.R_lower (Kd.R_new' (Kd.R_new' (Kd.R_new' j8 (Kd.R_lt b3.out)) (Kd.R_lt b4.out)) (Kd.R_lt h9.out)) (below_size (bl HB)));replace b3:=A_ (Kd.R_elder' b3.out (Kd.R_base j8) hb);replace b0:=rB b0 hb;replace b4:=A_ (Kd.R_elder' b4.out (Kd.R_base j8) hb);replace h9:=A_ (Kd.R_elder' h9.out (Kd.R_base j8) hb);replace b1:=kB b1 hb;replace b2:=kB b2 hb;replace HB:=bB HB hb;clear hb j8;obtain ⟨r0,r1,y6⟩:=Kd.R_slice m6.out;subst y6) | ((with_reducible refine gate_dst (N:=25) rfl ?_);(try (refine gate_guard (by rfl) ?_;dsimp only));refine Kd.N_lit k45 _ 45 ?hg (N':=25) ?hd (xs:=([(⟨1,j5⟩:S45),(⟨1,l7⟩:S45)]:List (S45))) (inner:=[.int .i64 1,.slice q8 j5.length q9,.int .i64 1,.slice r0 l7.length r1]) (ok:=(fun k_=>some k_ ≠ (.slice p1 i1.length p2:Value).ownBlock ∧ some k_ ≠ (l8:Value).ownBlock ∧ some k_ ≠ (l9:Value).ownBlock ∧ k_ ≠ b8 ∧ k_ ≠ b9)) (okp:=(fun k_=>some k_ ≠ (.slice p1 i1.length p2:Value).ownBlock ∧ some k_ ≠ (l8:Value).ownBlock ∧ some k_ ≠ (l9:Value).ownBlock ∧ k_ ≠ b8 ∧ k_ ≠ b9)) ?hr ?hp (fun _ hk=>hk) ((show ∀ k_,D4.heap.size ≤ k_ → (fun k_=>some k_ ≠ (.slice p1 i1.length p2:Value).ownBlock ∧ some k_ ≠ (l8:Value).ownBlock ∧ some k_ ≠ (l9:Value).ownBlock ∧ k_ ≠ b8 ∧ k_ ≠ b9) k_ from fun k_ hk=>⟨Kd.fresh' (Kd.R_lt b3.out) k_ hk,Kd.fresh' (Kd.R_lt b0.out) k_ hk,Kd.fresh' (Kd.R_lt b4.out) k_ hk,Kd.freshB (g:=b8) (o:=.cells #[.int .i64 d5,.int .i64 d7] 23 (0,0)) b1.out k_ hk,Kd.freshB (g:=b9) (o:=.cells #[.int .i64 d6,.int .i64 d8] 23 (0,0)) b2.out k_ hk⟩) _ (Nat.le_refl _)) (Below.refl _ _) (Nat.le_refl _) (by simp) ?_;(case hd=>rfl);(case hg=>rfl);(case hr=>first | (go_simp;done) | (go_simp;rfl));(case hp=>exact (Reps.c2 (show Kd.FK k45 _ _ (⟨1,j5⟩:S45) [.int .i64 1,.slice q8 j5.length q9] from (k45_mkF _ _ (⟨1,j5⟩:S45) (Kd.R_reads' (Kd.R_mono (ok':=(fun k_=>some k_ ≠ (.slice p1 i1.length p2:Value).ownBlock ∧ some k_ ≠ (l8:Value).ownBlock ∧ some k_ ≠ (l9:Value).ownBlock ∧ k_ ≠ b8 ∧ k_ ≠ b9)) (Kd.R_types (Kd.R_types (Kd.R_apart' (h9.out) (Kd.R_typed b0.out) (by decide)) b1.out (by decide)) b2.out (by decide)) (fun k_ hk=>⟨hk.1.1.1.1.1.2,⟨hk.1.1.2,⟨hk.1.1.1.1.2,⟨hk.1.2,hk.2⟩⟩⟩⟩))).2.1 (Kd.R_F (Kd.R_mono (ok':=(fun k_=>some k_ ≠ (.slice p1 i1.length p2:Value).ownBlock ∧ some k_ ≠ (l8:Value).ownBlock ∧ some k_ ≠ (l9:Value).ownBlock ∧ k_ ≠ b8 ∧ k_ ≠ b9)) (Kd.R_types (Kd.R_types (Kd.R_apart' (h9.out) (Kd.R_typed b0.out) (by decide)) b1.out (by decide)) b2.out (by decide)) (fun k_ hk=>⟨hk.1.1.1.1.1.2,⟨hk.1.1.2,⟨hk.1.1.1.1.2,⟨hk.1.2,hk.2⟩⟩⟩⟩))))) (Reps.c2 (show Kd.FK k45 _ _ (⟨1,l7⟩:S45) [.int .i64 1,.slice r0 l7.length r1] from (k45_mkF _ _ (⟨1,l7⟩:S45) (Kd.R_reads' (Kd.R_mono (ok':=(fun k_=>some k_ ≠ (.slice p1 i1.length p2:Value).ownBlock ∧ some k_ ≠ (l8:Value).ownBlock ∧ some k_ ≠ (l9:Value).ownBlock ∧ k_ ≠ b8 ∧ k_ ≠ b9)) (Kd.R_types (Kd.R_types (Kd.R_apart' (m6.out) (Kd.R_typed b0.out) (by decide)) b1.out (by decide)) b2.out (by decide)) (fun k_ hk=>⟨hk.1.1.1.1.1.2,⟨hk.1.1.2,⟨hk.1.1.1.1.2,⟨hk.1.2,hk.2⟩⟩⟩⟩))).2.1 (Kd.R_F (Kd.R_mono (ok':=(fun k_=>some k_ ≠ (.slice p1 i1.length p2:Value).ownBlock ∧ some k_ ≠ (l8:Value).ownBlock ∧ some k_ ≠ (l9:Value).ownBlock ∧ k_ ≠ b8 ∧ k_ ≠ b9)) (Kd.R_types (Kd.R_types (Kd.R_apart' (m6.out) (Kd.R_typed b0.out) (by decide)) b1.out (by decide)) b2.out (by decide)) (fun k_ hk=>⟨hk.1.1.1.1.1.2,⟨hk.1.1.2,⟨hk.1.1.1.1.2,⟨hk.1.2,hk.2⟩⟩⟩⟩))))) (Reps.none _ _))));intro D5 G2 n6 hb hg_ hnew_;clear hg_ hnew_;(first | rw [← p0.out] at n6 | (simp only [Int.reduceToNat] at n6;rw [← p0.out] at n6));have b6:=A_ (Kd.N_lower n6 (below_size (bl HB)));replace b3:=rB b3 hb;replace b0:=rB b0 hb;replace b4:=rB b4 hb;replace b1:=kB b1 hb;replace b2:=kB b2 hb;replace HB:=bB HB hb;clear h9 m6;clear hb n6;obtain ⟨y7,y8,y9⟩:=Kd.R_slice b4.out;subst y9;obtain ⟨z0,z1,z2⟩:=Kd.N_slice b6.out;subst z2) | ((with_reducible refine gate_callee (f:=32) rfl ?_);refine gL (some 26) Try.func32 #[.slice y7 n1.length y8,.slice z0 p9.length z1] ?_;(with_reducible refine (shares_Fair.calls k _ _ n1 _ _ p9 m8 j7 i3 _ ?side1 ?side2 ?side3 ?side4 A3.out).mono ?_);(case side1=>repeat (first | exact (Kd.R_reads' b4.out).2.2 | (with_reducible refine Kd.C_alloc ?_ _) | (with_reducible refine Kd.C_drewN ?_ _) | (with_reducible refine Kd.C_drew ?_)));(case side2=>exact (Kd.R_reads' b4.out).2.1);(case side3=>repeat (first | exact (Kd.N_reads' b6.out).2.2 | (with_reducible refine Kd.C_alloc ?_ _) | (with_reducible refine Kd.C_drewN ?_ _) | (with_reducible refine Kd.C_drew ?_)));(case side4=>exact (Kd.N_reads' b6.out).2.1);rintro e x6 ⟨D6,D7,rfl,q5,x7,hb⟩;refine ⟨_,rfl,?_⟩;have b5:=A_ (Kd.R_lower (Kd.R_newB (Kd.R_newB (Kd.R_new' q5 (Kd.R_lt b0.out)) (g:=b8) (o:=.cells #[.int .i64 d5,.int .i64 d7] 23 (0,0)) b1.out) (g:=b9) (o:=.cells #[.int .i64 d6,.int .i64 d8] 23 (0,0)) b2.out) (below_size (bl HB)));have b7:=A_ (Kd.R_lower (Kd.R_new' (Kd.R_new' x7 (Kd.R_lt b3.out)) (Kd.R_lt b4.out)) (below_size (bl HB)));replace b3:=A_ (Kd.R_elder' b3.out (Kd.R_base x7) hb);replace b0:=A_ (Kd.R_elder' b0.out (Kd.R_base q5) hb);replace b4:=A_ (Kd.R_elder' b4.out (Kd.R_base x7) hb);replace b6:=A_ (Kd.N_mono (Kd.N_told (Kd.N_told (Kd.N_old b6.out hb) (Kd.R_base q5)) (Kd.R_base x7)) (fun _ h_=>h_.1));replace b1:=kB b1 hb;replace b2:=kB b2 hb;replace HB:=bB HB hb;(try clear hb)))
 (try simp only [Act.put,List.setIfInBounds_toArray,List.set_cons_zero,List.set_cons_succ])
 go_cut [72] (fun D8 wc=>∃ (kq:Nat) (m7:Bool),D8 = .bool m7 ∧ Aside0 (numnahlaw07_awake.j0 kq m7 = some r) ∧ Aside0 (kq ≤ k) ∧ Aside0 (wc.heap[b8]? = some (.cells #[.int .i64 d5,.int .i64 d7] 23 (0,0))) ∧ Aside0 (wc.heap[b9]? = some (.cells #[.int .i64 d6,.int .i64 d8] 23 (0,0))) ∧ Aside0 (Below w.heap.size w wc))
 case first =>
  have H:=y4.out
  clear y4
  by_cases q0:i2 = 0
  case neg =>
   rw [if_neg q0] at H
   have j9:(i2 == 0) = false:=beq_eq_false_iff_ne.mpr q0
   have r2:(i2 != 0) = true:=bne_iff_ne.mpr q0
   (first | rw [j9] | (simp only [i64_w,i32_w];rw [j9]) | skip)
   have H':=A_ H
   clear H
   try go_wp2
   replace b3:=rD b3
   replace b0:=rD b0
   replace b4:=rD b4
   replace b6:=nD b6
   replace b5:=rD b5
   replace b7:=rD b7
   replace b1:=kD b1
   replace b2:=kD b2
   replace HB:=bD HB
   refine st 43 (fun w'=>True) [] numnahlaw07_awake.tab4 numnahlaw07_awake.bits4 (fun hHeld HT_ HW_=>?_)
   generalize x6.drew = D9 at b3 b0 b4 b6 b5 b7 b1 b2 HB hHeld ⊢
   refine pq 0 30 1 HT_ ?_
   refine pq 1 31 3 HT_ ?_
   refine pq 2 32 7 HT_ ?_
   refine pu 3 33 15 HT_ ?_
   refine pu 4 34 31 HT_ ?_
   refine pu 5 35 63 HT_ ?_
   refine pu 6 36 127 HT_ ?_
   refine pu 7 37 255 HT_ ?_
   refine pu 8 38 511 HT_ ?_
   refine pu 9 39 1023 HT_ ?_
   refine pq 10 40 2047 HT_ ?_
   refine pq 11 41 4095 HT_ ?_
   refine pu 12 42 8191 HT_ ?_
   refine pu 13 43 16383 HT_ ?_
   refine pq 14 44 32767 HT_ ?_
   refine pq 15 45 65535 HT_ ?_
   refine pu 16 46 131071 HT_ ?_
   refine pu 17 47 262143 HT_ ?_
   refine pu 18 48 524287 HT_ ?_
   refine pq 19 49 1048575 HT_ ?_
   refine pq 20 50 2097151 HT_ ?_
   refine pu 21 51 4194303 HT_ ?_
   refine pu 22 52 8388607 HT_ ?_
   refine pu 23 53 16777215 HT_ ?_
   refine pq 24 54 33554431 HT_ ?_
   refine pq 25 55 67108863 HT_ ?_
   refine pu 26 56 134217727 HT_ ?_
   refine pu 27 57 268435455 HT_ ?_
   refine pq 28 58 536870911 HT_ ?_
   refine pq 29 59 1073741823 HT_ ?_
   refine pu 30 60 2147483647 HT_ ?_
   refine pu 31 61 4294967295 HT_ ?_
   refine pu 32 62 8589934591 HT_ ?_
   refine pu 33 63 17179869183 HT_ ?_
   refine pu 34 64 34359738367 HT_ ?_
   refine pu 35 65 68719476735 HT_ ?_
   refine pq 36 66 137438953471 HT_ ?_
   refine pq 37 67 274877906943 HT_ ?_
   refine pu 38 68 549755813887 HT_ ?_
   refine pu 39 69 1099511627775 HT_ ?_
   refine pu 40 70 2199023255551 HT_ ?_
   refine pu 41 71 4398046511103 HT_ ?_
   refine pq 42 72 8796093022207 HT_ ?_
   refine done_ (done_of HT_.out (by kernel_rfl)) ?_
   try go_wp2
   go_meet
   case rel=>exact ⟨_,(true),rfl,H',⟨by first | omega | exact Nat.le_refl _⟩,⟨by (with_reducible repeat (first | refine blk_drewN ?_ _ | refine blk_drew ?_ | refine blk_alloc ?_ _));exact b1.out⟩,⟨by (with_reducible repeat (first | refine blk_drewN ?_ _ | refine blk_drew ?_ | refine blk_alloc ?_ _));exact b2.out⟩,⟨bl HB⟩⟩
  rw [if_pos q0] at H
  have j9:(i2 == 0) = true:=beq_iff_eq.mpr q0
  have r2:(i2 != 0) = false:=bne_eq_false_iff_eq.mpr q0
  clear q0
  (first | rw [j9] | (simp only [i64_w,i32_w];rw [j9]) | skip)
  replace H:=Option.bind_eq_some_iff.mp H
  obtain ⟨⟨e2,e3⟩,A290,H⟩:=H
  dsimp only at H
  have z3:=A_ A290
  clear A290
  replace H:=Option.bind_eq_some_iff.mp H
  obtain ⟨⟨e4,e5⟩,A300,H⟩:=H
  dsimp only at H
  have q3:=A_ A300
  clear A300
  replace H:=Option.bind_eq_some_iff.mp H
  obtain ⟨⟨e6,e7⟩,A310,H⟩:=H
  dsimp only at H
  have z4:=A_ A310
  clear A310
  obtain ⟨m1,n7⟩:∃ y_:List (S23),y_ = (([(⟨e2,e3⟩:S23),(⟨e4,e5⟩:S23),(⟨e6,e7⟩:S23)]:List (S23))):=⟨_,rfl⟩
  replace H:((numnahref07_Same.f k h8 m1).bind fun h0=>(if h0 = true then (if h7 = 0 then ((numnahref07_Whole.f 25).bind fun c1=>(if (!(d5 == c1.1) || (!(d7 == c1.2))) = true then (numnahlaw07_awake.j0 k true) else ((numnahref07_Whole.f 75).bind fun d0=>(if (!(d6 == d0.1) || (!(d8 == d0.2))) = true then (numnahlaw07_awake.j0 k true) else (if i3 = 0 then ((numnahref07_Whole.f 4).bind fun d1=>((numnahref07_Whole.f 6).bind fun d2=>((numnahref07_Same.f k m8 (([(⟨d1.1,d1.2⟩:S23),(⟨d2.1,d2.2⟩:S23)]:List (S23)))).bind fun e8=>(if e8 = true then ((numnahlaw07_ints.f k j7 (([1,0]:List Int))).bind fun d4=>(numnahlaw07_awake.j0 k (!d4))) else (numnahlaw07_awake.j0 k true))))) else (numnahlaw07_awake.j0 k true)))))) else (numnahlaw07_awake.j0 k true)) else (numnahlaw07_awake.j0 k true))) = some r:=by rw [n7];exact H
  have i0:=A_ n7
  clear n7
  replace H:=Option.bind_eq_some_iff.mp H
  obtain ⟨h0,r3,H⟩:=H
  replace H:(if h0 = true then (if h7 = 0 then ((numnahref07_Whole.f 25).bind fun c1=>(if (!(d5 == c1.1) || (!(d7 == c1.2))) = true then (numnahlaw07_awake.j0 k true) else ((numnahref07_Whole.f 75).bind fun d0=>(if (!(d6 == d0.1) || (!(d8 == d0.2))) = true then (numnahlaw07_awake.j0 k true) else (if i3 = 0 then ((numnahref07_Whole.f 4).bind fun d1=>((numnahref07_Whole.f 6).bind fun d2=>((numnahref07_Same.f k m8 (([(⟨d1.1,d1.2⟩:S23),(⟨d2.1,d2.2⟩:S23)]:List (S23)))).bind fun e8=>(if e8 = true then ((numnahlaw07_ints.f k j7 (([1,0]:List Int))).bind fun d4=>(numnahlaw07_awake.j0 k (!d4))) else (numnahlaw07_awake.j0 k true))))) else (numnahlaw07_awake.j0 k true)))))) else (numnahlaw07_awake.j0 k true)) else (numnahlaw07_awake.j0 k true)) = some r:=H
  have z5:=A_ r3
  clear r3
  by_cases x8:h0 = true
  case neg =>
   replace x8:=Bool.eq_false_iff.mpr x8
   subst x8
   have H1:(numnahlaw07_awake.j0 k true) = some r:=by rw [if_neg (show ¬ (false = true) by decide)] at H;exact H
   exact absurd (H1.trans (congrArg some HRT.out)) (j0_no k)
  subst x8
  have H1:(if h7 = 0 then ((numnahref07_Whole.f 25).bind fun c1=>(if (!(d5 == c1.1) || (!(d7 == c1.2))) = true then (numnahlaw07_awake.j0 k true) else ((numnahref07_Whole.f 75).bind fun d0=>(if (!(d6 == d0.1) || (!(d8 == d0.2))) = true then (numnahlaw07_awake.j0 k true) else (if i3 = 0 then ((numnahref07_Whole.f 4).bind fun d1=>((numnahref07_Whole.f 6).bind fun d2=>((numnahref07_Same.f k m8 (([(⟨d1.1,d1.2⟩:S23),(⟨d2.1,d2.2⟩:S23)]:List (S23)))).bind fun e8=>(if e8 = true then ((numnahlaw07_ints.f k j7 (([1,0]:List Int))).bind fun d4=>(numnahlaw07_awake.j0 k (!d4))) else (numnahlaw07_awake.j0 k true))))) else (numnahlaw07_awake.j0 k true)))))) else (numnahlaw07_awake.j0 k true)) = some r:=by rw [if_pos rfl] at H;exact H
  clear H
  have H:=H1
  clear H1
  by_cases q1:h7 = 0
  case neg =>
   rw [if_neg q1] at H
   have r4:(h7 == 0) = false:=beq_eq_false_iff_ne.mpr q1
   have r5:(h7 != 0) = true:=bne_iff_ne.mpr q1
   have H':=A_ H
   clear H
   try go_wp2
   replace b3:=rD b3
   replace b0:=rD b0
   replace b4:=rD b4
   replace b6:=nD b6
   replace b5:=rD b5
   replace b7:=rD b7
   replace b1:=kD b1
   replace b2:=kD b2
   replace HB:=bD HB
   refine st 43 (fun w'=>True) [] numnahlaw07_awake.tab4 numnahlaw07_awake.bits4 (fun hHeld HT_ HW_=>?_)
   generalize x6.drew = E0 at b3 b0 b4 b6 b5 b7 b1 b2 HB hHeld ⊢
   refine pq 0 30 1 HT_ ?_
   refine pq 1 31 3 HT_ ?_
   refine pq 2 32 7 HT_ ?_
   refine pq 3 33 15 HT_ ?_
   refine oq 4 34 31 HT_ (fun K hK=>?_)
   refine gq Try.func23 #[.int .i64 50] ?_
   with_reducible refine (numnahref07_Whole.calls 50 e2 e3 _ z3.out).mono ?_
   rintro e E1 ⟨rfl,hb⟩
   refine ⟨_,rfl,?_⟩
   replace b3:=rB b3 hb
   replace b0:=rB b0 hb
   replace b4:=rB b4 hb
   replace b6:=nB b6 hb
   replace b5:=rB b5 hb
   replace b7:=rB b7 hb
   replace b1:=kB b1 hb
   replace b2:=kB b2 hb
   replace HB:=bB HB hb
   (try clear hb)
   refine hz hK (fun hHeld=>?_)
   clear hK K
   refine nq 34 ?_
   refine oq 5 35 63 HT_ (fun K hK=>?_)
   refine gq Try.func23 #[.int .i64 100] ?_
   with_reducible refine (numnahref07_Whole.calls 100 e4 e5 _ q3.out).mono ?_
   rintro e E2 ⟨rfl,hb⟩
   refine ⟨_,rfl,?_⟩
   replace b3:=rB b3 hb
   replace b0:=rB b0 hb
   replace b4:=rB b4 hb
   replace b6:=nB b6 hb
   replace b5:=rB b5 hb
   replace b7:=rB b7 hb
   replace b1:=kB b1 hb
   replace b2:=kB b2 hb
   replace HB:=bB HB hb
   (try clear hb)
   refine hz hK (fun hHeld=>?_)
   clear hK K
   refine nq 35 ?_
   refine oq 6 36 127 HT_ (fun K hK=>?_)
   refine gq Try.func23 #[.int .i64 150] ?_
   with_reducible refine (numnahref07_Whole.calls 150 e6 e7 _ z4.out).mono ?_
   rintro e E3 ⟨rfl,hb⟩
   refine ⟨_,rfl,?_⟩
   replace b3:=rB b3 hb
   replace b0:=rB b0 hb
   replace b4:=rB b4 hb
   replace b6:=nB b6 hb
   replace b5:=rB b5 hb
   replace b7:=rB b7 hb
   replace b1:=kB b1 hb
   replace b2:=kB b2 hb
   replace HB:=bB HB hb
   (try clear hb)
   refine hz hK (fun hHeld=>?_)
   clear hK K
   refine nq 36 ?_
   refine oq 7 37 255 HT_ (fun K hK=>?_)
   refine Kd.R_lit_step k23 _ 23 ?hg (N:=37) ?hd (xs:=([(⟨e2,e3⟩:S23),(⟨e4,e5⟩:S23),(⟨e6,e7⟩:S23)]:List (S23))) (inner:=[.int .i64 e2,.int .i64 e3,.int .i64 e4,.int .i64 e5,.int .i64 e6,.int .i64 e7]) (ok:=fun _=>True) (okp:=fun _=>True) ?hr ?hp (fun _ hk=>hk) trivial (Below.refl _ _) (Nat.le_refl _) (by simp) ?_;(case hd=>rfl);(case hg=>rfl);(case hr=>first | (go_simp;done) | (go_simp;rfl));(case hp=>exact (Reps.c2 (show Kd.M k23 _ _ _ (⟨e2,e3⟩:S23) [.int .i64 e2,.int .i64 e3] from (k23_mkM _ _ _ (⟨e2,e3⟩:S23) )) (Reps.c2 (show Kd.M k23 _ _ _ (⟨e4,e5⟩:S23) [.int .i64 e4,.int .i64 e5] from (k23_mkM _ _ _ (⟨e4,e5⟩:S23) )) (Reps.c2 (show Kd.M k23 _ _ _ (⟨e6,e7⟩:S23) [.int .i64 e6,.int .i64 e7] from (k23_mkM _ _ _ (⟨e6,e7⟩:S23) )) (Reps.none _ _)))))
   intro r6 E4 h5 hb hg_ hnew_
   clear hg_ hnew_
   (first | rw [← i0.out] at h5 | (simp only [Int.reduceToNat] at h5;rw [← i0.out] at h5))
   have c0:=A_ (Kd.R_lower (Kd.R_newB (Kd.R_newB (Kd.R_new' (Kd.R_new' h5 (Kd.R_lt (rs b0))) (Kd.R_lt (rs b5))) (g:=b8) (o:=.cells #[.int .i64 d5,.int .i64 d7] 23 (0,0)) b1.out) (g:=b9) (o:=.cells #[.int .i64 d6,.int .i64 d8] 23 (0,0)) b2.out) (below_size HB.out))
   replace b3:=rB b3 hb
   replace b0:=A_ (Kd.R_elder' (rs b0) (Kd.R_base h5) hb)
   replace b4:=rB b4 hb
   replace b6:=A_ (Kd.N_elder' (ns b6) (Kd.R_base h5) hb)
   replace b5:=A_ (Kd.R_elder' (rs b5) (Kd.R_base h5) hb)
   replace b7:=rB b7 hb
   replace b1:=kB b1 hb
   replace b2:=kB b2 hb
   replace HB:=bB HB hb
   clear hb h5
   obtain ⟨r7,r8,p3⟩:=Kd.R_slice b0.out
   (first | subst p3 | (injection p3 with h1 i4 h2;have i5:=h1.symm;have i6:=h2.symm;clear h1 i4 h2;subst i5;subst i6))
   obtain ⟨r9,s0,p4⟩:=Kd.R_slice c0.out
   (first | subst p4 | (injection p4 with h1 i4 h2;have i5:=h1.symm;have i6:=h2.symm;clear h1 i4 h2;subst i5;subst i6))
   refine hz hK (fun hHeld=>?_)
   clear hK K
   refine nq 37 ?_
   refine oq 8 38 511 HT_ (fun K hK=>?_)
   refine gq Try.func33 #[.slice r7 h8.length r8,.slice r9 m1.length s0] ?_
   with_reducible refine (numnahref07_Same.calls k _ _ h8 _ _ m1 true _ ?side1 ?side2 ?side3 ?side4 z5.out).mono ?_
   (case side1=>repeat (first | exact (Kd.R_reads' b0.out).2.2 | (with_reducible refine Kd.C_alloc ?_ _) | (with_reducible refine Kd.C_drewN ?_ _) | (with_reducible refine Kd.C_drew ?_)))
   (case side2=>exact (Kd.R_reads' b0.out).2.1)
   (case side3=>repeat (first | exact (Kd.R_reads' c0.out).2.2 | (with_reducible refine Kd.C_alloc ?_ _) | (with_reducible refine Kd.C_drewN ?_ _) | (with_reducible refine Kd.C_drew ?_)))
   (case side4=>exact (Kd.R_reads' c0.out).2.1)
   rintro e w' ⟨rfl,⟨nd,rfl⟩⟩
   refine ⟨_,rfl,?_⟩
   refine hz hK (fun hHeld=>?_)
   clear hK K
   refine nq 38 ?_
   refine pq 9 39 1023 HT_ ?_
   refine pq 10 40 2047 HT_ ?_
   refine pq 11 41 4095 HT_ ?_
   refine pq 12 42 8191 HT_ ?_
   refine pq 13 43 16383 HT_ ?_
   refine pq 14 44 32767 HT_ ?_
   refine pq 15 45 65535 HT_ ?_
   refine pu 16 46 131071 HT_ ?_
   refine pu 17 47 262143 HT_ ?_
   refine pu 18 48 524287 HT_ ?_
   refine pq 19 49 1048575 HT_ ?_
   refine pq 20 50 2097151 HT_ ?_
   refine pu 21 51 4194303 HT_ ?_
   refine pu 22 52 8388607 HT_ ?_
   refine pu 23 53 16777215 HT_ ?_
   refine pq 24 54 33554431 HT_ ?_
   refine pq 25 55 67108863 HT_ ?_
   refine pu 26 56 134217727 HT_ ?_
   refine pu 27 57 268435455 HT_ ?_
   refine pq 28 58 536870911 HT_ ?_
   refine pq 29 59 1073741823 HT_ ?_
   refine pu 30 60 2147483647 HT_ ?_
   refine pu 31 61 4294967295 HT_ ?_
   refine pu 32 62 8589934591 HT_ ?_
   refine pu 33 63 17179869183 HT_ ?_
   refine pu 34 64 34359738367 HT_ ?_
   refine pu 35 65 68719476735 HT_ ?_
   refine pq 36 66 137438953471 HT_ ?_
   refine pq 37 67 274877906943 HT_ ?_
   refine pu 38 68 549755813887 HT_ ?_
   refine pu 39 69 1099511627775 HT_ ?_
   refine pu 40 70 2199023255551 HT_ ?_
   refine pu 41 71 4398046511103 HT_ ?_
   refine pq 42 72 8796093022207 HT_ ?_
   refine done_ (done_of HT_.out (by kernel_rfl)) ?_
   try go_wp2
   go_meet
   case rel=>exact ⟨_,(true),rfl,H',⟨by first | omega | exact Nat.le_refl _⟩,⟨by (with_reducible repeat (first | refine blk_drewN ?_ _ | refine blk_drew ?_ | refine blk_alloc ?_ _));exact b1.out⟩,⟨by (with_reducible repeat (first | refine blk_drewN ?_ _ | refine blk_drew ?_ | refine blk_alloc ?_ _));exact b2.out⟩,⟨bl HB⟩⟩
  rw [if_pos q1] at H
  have r4:(h7 == 0) = true:=beq_iff_eq.mpr q1
  have r5:(h7 != 0) = false:=bne_eq_false_iff_eq.mpr q1
  clear q1
  replace H:=Option.bind_eq_some_iff.mp H
  obtain ⟨⟨o1,o2⟩,A350,H⟩:=H
  dsimp only at H
  have C4:=A_ A350
  clear A350
  by_cases x9:(!(d5 == o1) || (!(d7 == o2))) = true
  ·rw [if_pos x9] at H
   exact absurd (H.trans (congrArg some HRT.out)) (j0_no k)
  rw [if_neg x9] at H
  have C5:(!(d5 == o1) || (!(d7 == o2))) = false:=by simpa using x9
  clear x9
  replace H:=Option.bind_eq_some_iff.mp H
  obtain ⟨⟨o3,o4⟩,A460,H⟩:=H
  dsimp only at H
  have C6:=A_ A460
  clear A460
  by_cases y1:(!(d6 == o3) || (!(d8 == o4))) = true
  ·rw [if_pos y1] at H
   exact absurd (H.trans (congrArg some HRT.out)) (j0_no k)
  rw [if_neg y1] at H
  have C7:(!(d6 == o3) || (!(d8 == o4))) = false:=by simpa using y1
  clear y1
  by_cases q2:i3 = 0
  case neg =>
   rw [if_neg q2] at H
   have s1:(i3 == 0) = false:=beq_eq_false_iff_ne.mpr q2
   have s2:(i3 != 0) = true:=bne_iff_ne.mpr q2
   have H':=A_ H
   clear H
   try go_wp2
   replace b3:=rD b3
   replace b0:=rD b0
   replace b4:=rD b4
   replace b6:=nD b6
   replace b5:=rD b5
   replace b7:=rD b7
   replace b1:=kD b1
   replace b2:=kD b2
   replace HB:=bD HB
   refine st 43 (fun w'=>w'.cell? ⟨b8,0,none⟩ = some (.int .i64 d5) ∧ w'.cell? ⟨b8,1,none⟩ = some (.int .i64 d7) ∧ w'.cell? ⟨b9,0,none⟩ = some (.int .i64 d6) ∧ w'.cell? ⟨b9,1,none⟩ = some (.int .i64 d8)) [] numnahlaw07_awake.tab4 numnahlaw07_awake.bits4 (fun hHeld HT_ HW_=>?_)
   generalize x6.drew = E5 at b3 b0 b4 b6 b5 b7 b1 b2 HB hHeld ⊢
   refine pq 0 30 1 HT_ ?_
   refine pq 1 31 3 HT_ ?_
   refine pq 2 32 7 HT_ ?_
   refine pq 3 33 15 HT_ ?_
   refine oq 4 34 31 HT_ (fun K hK=>?_)
   refine gq Try.func23 #[.int .i64 50] ?_
   with_reducible refine (numnahref07_Whole.calls 50 e2 e3 _ z3.out).mono ?_
   rintro e E6 ⟨rfl,hb⟩
   refine ⟨_,rfl,?_⟩
   replace b3:=rB b3 hb
   replace b0:=rB b0 hb
   replace b4:=rB b4 hb
   replace b6:=nB b6 hb
   replace b5:=rB b5 hb
   replace b7:=rB b7 hb
   replace b1:=kB b1 hb
   replace b2:=kB b2 hb
   replace HB:=bB HB hb
   (try clear hb)
   refine hz hK (fun hHeld=>?_)
   clear hK K
   refine nq 34 ?_
   refine oq 5 35 63 HT_ (fun K hK=>?_)
   refine gq Try.func23 #[.int .i64 100] ?_
   with_reducible refine (numnahref07_Whole.calls 100 e4 e5 _ q3.out).mono ?_
   rintro e E7 ⟨rfl,hb⟩
   refine ⟨_,rfl,?_⟩
   replace b3:=rB b3 hb
   replace b0:=rB b0 hb
   replace b4:=rB b4 hb
   replace b6:=nB b6 hb
   replace b5:=rB b5 hb
   replace b7:=rB b7 hb
   replace b1:=kB b1 hb
   replace b2:=kB b2 hb
   replace HB:=bB HB hb
   (try clear hb)
   refine hz hK (fun hHeld=>?_)
   clear hK K
   refine nq 35 ?_
   refine oq 6 36 127 HT_ (fun K hK=>?_)
   refine gq Try.func23 #[.int .i64 150] ?_
   with_reducible refine (numnahref07_Whole.calls 150 e6 e7 _ z4.out).mono ?_
   rintro e E8 ⟨rfl,hb⟩
   refine ⟨_,rfl,?_⟩
   replace b3:=rB b3 hb
   replace b0:=rB b0 hb
   replace b4:=rB b4 hb
   replace b6:=nB b6 hb
   replace b5:=rB b5 hb
   replace b7:=rB b7 hb
   replace b1:=kB b1 hb
   replace b2:=kB b2 hb
   replace HB:=bB HB hb
   (try clear hb)
   refine hz hK (fun hHeld=>?_)
   clear hK K
   refine nq 36 ?_
   refine oq 7 37 255 HT_ (fun K hK=>?_)
   refine Kd.R_lit_step k23 _ 23 ?hg (N:=37) ?hd (xs:=([(⟨e2,e3⟩:S23),(⟨e4,e5⟩:S23),(⟨e6,e7⟩:S23)]:List (S23))) (inner:=[.int .i64 e2,.int .i64 e3,.int .i64 e4,.int .i64 e5,.int .i64 e6,.int .i64 e7]) (ok:=fun _=>True) (okp:=fun _=>True) ?hr ?hp (fun _ hk=>hk) trivial (Below.refl _ _) (Nat.le_refl _) (by simp) ?_;(case hd=>rfl);(case hg=>rfl);(case hr=>first | (go_simp;done) | (go_simp;rfl));(case hp=>exact (Reps.c2 (show Kd.M k23 _ _ _ (⟨e2,e3⟩:S23) [.int .i64 e2,.int .i64 e3] from (k23_mkM _ _ _ (⟨e2,e3⟩:S23) )) (Reps.c2 (show Kd.M k23 _ _ _ (⟨e4,e5⟩:S23) [.int .i64 e4,.int .i64 e5] from (k23_mkM _ _ _ (⟨e4,e5⟩:S23) )) (Reps.c2 (show Kd.M k23 _ _ _ (⟨e6,e7⟩:S23) [.int .i64 e6,.int .i64 e7] from (k23_mkM _ _ _ (⟨e6,e7⟩:S23) )) (Reps.none _ _)))))
   intro r6 E9 h6 hb hg_ hnew_
   clear hg_ hnew_
   (first | rw [← i0.out] at h6 | (simp only [Int.reduceToNat] at h6;rw [← i0.out] at h6))
   have c0:=A_ (Kd.R_lower (Kd.R_newB (Kd.R_newB (Kd.R_new' (Kd.R_new' h6 (Kd.R_lt (rs b0))) (Kd.R_lt (rs b5))) (g:=b8) (o:=.cells #[.int .i64 d5,.int .i64 d7] 23 (0,0)) b1.out) (g:=b9) (o:=.cells #[.int .i64 d6,.int .i64 d8] 23 (0,0)) b2.out) (below_size HB.out))
   replace b3:=rB b3 hb
   replace b0:=A_ (Kd.R_elder' (rs b0) (Kd.R_base h6) hb)
   replace b4:=rB b4 hb
   replace b6:=A_ (Kd.N_elder' (ns b6) (Kd.R_base h6) hb)
   replace b5:=A_ (Kd.R_elder' (rs b5) (Kd.R_base h6) hb)
   replace b7:=rB b7 hb
   replace b1:=kB b1 hb
   replace b2:=kB b2 hb
   replace HB:=bB HB hb
   clear hb h6
   obtain ⟨s3,s4,p5⟩:=Kd.R_slice b0.out
   (first | subst p5 | (injection p5 with h1 i4 h2;have i5:=h1.symm;have i6:=h2.symm;clear h1 i4 h2;subst i5;subst i6))
   obtain ⟨s5,s6,p6⟩:=Kd.R_slice c0.out
   (first | subst p6 | (injection p6 with h1 i4 h2;have i5:=h1.symm;have i6:=h2.symm;clear h1 i4 h2;subst i5;subst i6))
   refine hz hK (fun hHeld=>?_)
   clear hK K
   refine nq 37 ?_
   refine oq 8 38 511 HT_ (fun K hK=>?_)
   refine gq Try.func33 #[.slice s3 h8.length s4,.slice s5 m1.length s6] ?_
   with_reducible refine (numnahref07_Same.calls k _ _ h8 _ _ m1 true _ ?side1 ?side2 ?side3 ?side4 z5.out).mono ?_
   (case side1=>repeat (first | exact (Kd.R_reads' b0.out).2.2 | (with_reducible refine Kd.C_alloc ?_ _) | (with_reducible refine Kd.C_drewN ?_ _) | (with_reducible refine Kd.C_drew ?_)))
   (case side2=>exact (Kd.R_reads' b0.out).2.1)
   (case side3=>repeat (first | exact (Kd.R_reads' c0.out).2.2 | (with_reducible refine Kd.C_alloc ?_ _) | (with_reducible refine Kd.C_drewN ?_ _) | (with_reducible refine Kd.C_drew ?_)))
   (case side4=>exact (Kd.R_reads' c0.out).2.1)
   rintro e w' ⟨rfl,⟨nd,rfl⟩⟩
   refine ⟨_,rfl,?_⟩
   refine hz hK (fun hHeld=>?_)
   clear hK K
   refine nq 38 ?_
   refine pq 9 39 1023 HT_ ?_
   refine pq 10 40 2047 HT_ ?_
   refine pq 11 41 4095 HT_ ?_
   refine pq 12 42 8191 HT_ ?_
   refine pq 13 43 16383 HT_ ?_
   refine pq 14 44 32767 HT_ ?_
   refine pq 15 45 65535 HT_ ?_
   refine tq 16 46 131071 HT_ HW_ hHeld ?_
   refine oq 17 47 262143 HT_ (fun K hK=>?_)
   refine gq Try.func23 #[.int .i64 25] ?_
   with_reducible refine (numnahref07_Whole.calls 25 o1 o2 _ C4.out).mono ?_
   rintro e F0 ⟨rfl,hb⟩
   refine ⟨_,rfl,?_⟩
   replace b3:=rB b3 hb
   replace b0:=rB b0 hb
   replace b4:=rB b4 hb
   replace b6:=nB b6 hb
   replace b5:=rB b5 hb
   replace b7:=rB b7 hb
   replace c0:=rB c0 hb
   replace b1:=kB b1 hb
   replace b2:=kB b2 hb
   replace HB:=bB HB hb
   (try clear hb)
   refine hz hK (fun hHeld=>?_)
   clear hK K
   refine nq 47 ?_
   refine pq 18 48 524287 HT_ ?_
   refine pq 19 49 1048575 HT_ ?_
   refine pq 20 50 2097151 HT_ ?_
   refine tq 21 51 4194303 HT_ HW_ hHeld ?_
   refine oq 22 52 8388607 HT_ (fun K hK=>?_)
   refine gq Try.func23 #[.int .i64 75] ?_
   with_reducible refine (numnahref07_Whole.calls 75 o3 o4 _ C6.out).mono ?_
   rintro e F1 ⟨rfl,hb⟩
   refine ⟨_,rfl,?_⟩
   replace b3:=rB b3 hb
   replace b0:=rB b0 hb
   replace b4:=rB b4 hb
   replace b6:=nB b6 hb
   replace b5:=rB b5 hb
   replace b7:=rB b7 hb
   replace c0:=rB c0 hb
   replace b1:=kB b1 hb
   replace b2:=kB b2 hb
   replace HB:=bB HB hb
   (try clear hb)
   refine hz hK (fun hHeld=>?_)
   clear hK K
   refine nq 52 ?_
   refine pq 23 53 16777215 HT_ ?_
   refine pq 24 54 33554431 HT_ ?_
   refine pq 25 55 67108863 HT_ ?_
   refine pq 26 56 134217727 HT_ ?_
   refine pq 27 57 268435455 HT_ ?_
   refine pq 28 58 536870911 HT_ ?_
   refine pq 29 59 1073741823 HT_ ?_
   refine pu 30 60 2147483647 HT_ ?_
   refine pu 31 61 4294967295 HT_ ?_
   refine pu 32 62 8589934591 HT_ ?_
   refine pu 33 63 17179869183 HT_ ?_
   refine pu 34 64 34359738367 HT_ ?_
   refine pu 35 65 68719476735 HT_ ?_
   refine pq 36 66 137438953471 HT_ ?_
   refine pq 37 67 274877906943 HT_ ?_
   refine pu 38 68 549755813887 HT_ ?_
   refine pu 39 69 1099511627775 HT_ ?_
   refine pu 40 70 2199023255551 HT_ ?_
   refine pu 41 71 4398046511103 HT_ ?_
   refine pq 42 72 8796093022207 HT_ ?_
   refine done_ (done_of HT_.out (by kernel_rfl)) ?_
   try go_wp2
   go_meet
   case rel=>exact ⟨_,(true),rfl,H',⟨by first | omega | exact Nat.le_refl _⟩,⟨by (with_reducible repeat (first | refine blk_drewN ?_ _ | refine blk_drew ?_ | refine blk_alloc ?_ _));exact b1.out⟩,⟨by (with_reducible repeat (first | refine blk_drewN ?_ _ | refine blk_drew ?_ | refine blk_alloc ?_ _));exact b2.out⟩,⟨bl HB⟩⟩
  rw [if_pos q2] at H
  have s1:(i3 == 0) = true:=beq_iff_eq.mpr q2
  have s2:(i3 != 0) = false:=bne_eq_false_iff_eq.mpr q2
  clear q2
  replace H:=Option.bind_eq_some_iff.mp H
  obtain ⟨⟨m2,m3⟩,A590,H⟩:=H
  dsimp only at H
  have F2:=A_ A590
  clear A590
  replace H:=Option.bind_eq_some_iff.mp H
  obtain ⟨⟨m4,m5⟩,A600,H⟩:=H
  dsimp only at H
  have F3:=A_ A600
  clear A600
  obtain ⟨s7,n8⟩:∃ y_:List (S23),y_ = (([(⟨m2,m3⟩:S23),(⟨m4,m5⟩:S23)]:List (S23))):=⟨_,rfl⟩
  rw [← n8] at H
  have p7:=A_ n8
  clear n8
  replace H:=Option.bind_eq_some_iff.mp H
  obtain ⟨e8,s8,H⟩:=H
  replace H:(if e8 = true then ((numnahlaw07_ints.f k j7 (([1,0]:List Int))).bind fun d4=>(numnahlaw07_awake.j0 k (!d4))) else (numnahlaw07_awake.j0 k true)) = some r:=H
  have F4:=A_ s8
  clear s8
  by_cases y2:e8 = true
  case neg =>
   replace y2:=Bool.eq_false_iff.mpr y2
   subst y2
   have H1:(numnahlaw07_awake.j0 k true) = some r:=by rw [if_neg (show ¬ (false = true) by decide)] at H;exact H
   exact absurd (H1.trans (congrArg some HRT.out)) (j0_no k)
  subst y2
  have H1:((numnahlaw07_ints.f k j7 (([1,0]:List Int))).bind fun d4=>(numnahlaw07_awake.j0 k (!d4))) = some r:=by rw [if_pos rfl] at H;exact H
  clear H
  have H:=H1
  clear H1
  obtain ⟨s9,n9⟩:∃ y_:List Int,y_ = (([1,0]:List Int)):=⟨_,rfl⟩
  rw [← n9] at H
  have p8:=A_ n9
  clear n9
  replace H:=Option.bind_eq_some_iff.mp H
  obtain ⟨d4,t0,H⟩:=H
  replace H:(numnahlaw07_awake.j0 k (!d4)) = some r:=H
  have F5:=A_ t0
  clear t0
  have H':=A_ H
  clear H
  try go_wp2
  replace b3:=rD b3
  replace b0:=rD b0
  replace b4:=rD b4
  replace b6:=nD b6
  replace b5:=rD b5
  replace b7:=rD b7
  replace b1:=kD b1
  replace b2:=kD b2
  replace HB:=bD HB
  refine st 43 (fun w'=>w'.cell? ⟨b8,0,none⟩ = some (.int .i64 d5) ∧ w'.cell? ⟨b8,1,none⟩ = some (.int .i64 d7) ∧ w'.cell? ⟨b9,0,none⟩ = some (.int .i64 d6) ∧ w'.cell? ⟨b9,1,none⟩ = some (.int .i64 d8)) [] numnahlaw07_awake.tab4 numnahlaw07_awake.bits4 (fun hHeld HT_ HW_=>?_)
  generalize x6.drew = G3 at b3 b0 b4 b6 b5 b7 b1 b2 HB hHeld ⊢
  refine pq 0 30 1 HT_ ?_
  refine pq 1 31 3 HT_ ?_
  refine pq 2 32 7 HT_ ?_
  refine pq 3 33 15 HT_ ?_
  refine oq 4 34 31 HT_ (fun K hK=>?_)
  refine gq Try.func23 #[.int .i64 50] ?_
  with_reducible refine (numnahref07_Whole.calls 50 e2 e3 _ z3.out).mono ?_
  rintro e G4 ⟨rfl,hb⟩
  refine ⟨_,rfl,?_⟩
  replace b3:=rB b3 hb
  replace b0:=rB b0 hb
  replace b4:=rB b4 hb
  replace b6:=nB b6 hb
  replace b5:=rB b5 hb
  replace b7:=rB b7 hb
  replace b1:=kB b1 hb
  replace b2:=kB b2 hb
  replace HB:=bB HB hb
  (try clear hb)
  refine hz hK (fun hHeld=>?_)
  clear hK K
  refine nq 34 ?_
  refine oq 5 35 63 HT_ (fun K hK=>?_)
  refine gq Try.func23 #[.int .i64 100] ?_
  with_reducible refine (numnahref07_Whole.calls 100 e4 e5 _ q3.out).mono ?_
  rintro e G5 ⟨rfl,hb⟩
  refine ⟨_,rfl,?_⟩
  replace b3:=rB b3 hb
  replace b0:=rB b0 hb
  replace b4:=rB b4 hb
  replace b6:=nB b6 hb
  replace b5:=rB b5 hb
  replace b7:=rB b7 hb
  replace b1:=kB b1 hb
  replace b2:=kB b2 hb
  replace HB:=bB HB hb
  (try clear hb)
  refine hz hK (fun hHeld=>?_)
  clear hK K
  refine nq 35 ?_
  refine oq 6 36 127 HT_ (fun K hK=>?_)
  refine gq Try.func23 #[.int .i64 150] ?_
  with_reducible refine (numnahref07_Whole.calls 150 e6 e7 _ z4.out).mono ?_
  rintro e G6 ⟨rfl,hb⟩
  refine ⟨_,rfl,?_⟩
  replace b3:=rB b3 hb
  replace b0:=rB b0 hb
  replace b4:=rB b4 hb
  replace b6:=nB b6 hb
  replace b5:=rB b5 hb
  replace b7:=rB b7 hb
  replace b1:=kB b1 hb
  replace b2:=kB b2 hb
  replace HB:=bB HB hb
  (try clear hb)
  refine hz hK (fun hHeld=>?_)
  clear hK K
  refine nq 36 ?_
  refine oq 7 37 255 HT_ (fun K hK=>?_)
  refine Kd.R_lit_step k23 _ 23 ?hg (N:=37) ?hd (xs:=([(⟨e2,e3⟩:S23),(⟨e4,e5⟩:S23),(⟨e6,e7⟩:S23)]:List (S23))) (inner:=[.int .i64 e2,.int .i64 e3,.int .i64 e4,.int .i64 e5,.int .i64 e6,.int .i64 e7]) (ok:=fun _=>True) (okp:=fun _=>True) ?hr ?hp (fun _ hk=>hk) trivial (Below.refl _ _) (Nat.le_refl _) (by simp) ?_;(case hd=>rfl);(case hg=>rfl);(case hr=>first | (go_simp;done) | (go_simp;rfl));(case hp=>exact (Reps.c2 (show Kd.M k23 _ _ _ (⟨e2,e3⟩:S23) [.int .i64 e2,.int .i64 e3] from (k23_mkM _ _ _ (⟨e2,e3⟩:S23) )) (Reps.c2 (show Kd.M k23 _ _ _ (⟨e4,e5⟩:S23) [.int .i64 e4,.int .i64 e5] from (k23_mkM _ _ _ (⟨e4,e5⟩:S23) )) (Reps.c2 (show Kd.M k23 _ _ _ (⟨e6,e7⟩:S23) [.int .i64 e6,.int .i64 e7] from (k23_mkM _ _ _ (⟨e6,e7⟩:S23) )) (Reps.none _ _)))))
  intro r6 G7 l5 hb hg_ hnew_
  clear hg_ hnew_
  (first | rw [← i0.out] at l5 | (simp only [Int.reduceToNat] at l5;rw [← i0.out] at l5))
  have c0:=A_ (Kd.R_lower (Kd.R_newB (Kd.R_newB (Kd.R_new' (Kd.R_new' l5 (Kd.R_lt (rs b0))) (Kd.R_lt (rs b5))) (g:=b8) (o:=.cells #[.int .i64 d5,.int .i64 d7] 23 (0,0)) b1.out) (g:=b9) (o:=.cells #[.int .i64 d6,.int .i64 d8] 23 (0,0)) b2.out) (below_size HB.out))
  replace b3:=rB b3 hb
  replace b0:=A_ (Kd.R_elder' (rs b0) (Kd.R_base l5) hb)
  replace b4:=rB b4 hb
  replace b6:=A_ (Kd.N_elder' (ns b6) (Kd.R_base l5) hb)
  replace b5:=A_ (Kd.R_elder' (rs b5) (Kd.R_base l5) hb)
  replace b7:=rB b7 hb
  replace b1:=kB b1 hb
  replace b2:=kB b2 hb
  replace HB:=bB HB hb
  clear hb l5
  obtain ⟨z6,z7,t1⟩:=Kd.R_slice b0.out
  (first | subst t1 | (injection t1 with h1 i4 h2;have i5:=h1.symm;have i6:=h2.symm;clear h1 i4 h2;subst i5;subst i6))
  obtain ⟨z8,z9,t2⟩:=Kd.R_slice c0.out
  (first | subst t2 | (injection t2 with h1 i4 h2;have i5:=h1.symm;have i6:=h2.symm;clear h1 i4 h2;subst i5;subst i6))
  refine hz hK (fun hHeld=>?_)
  clear hK K
  refine nq 37 ?_
  refine oq 8 38 511 HT_ (fun K hK=>?_)
  refine gq Try.func33 #[.slice z6 h8.length z7,.slice z8 m1.length z9] ?_
  with_reducible refine (numnahref07_Same.calls k _ _ h8 _ _ m1 true _ ?side1 ?side2 ?side3 ?side4 z5.out).mono ?_
  (case side1=>repeat (first | exact (Kd.R_reads' b0.out).2.2 | (with_reducible refine Kd.C_alloc ?_ _) | (with_reducible refine Kd.C_drewN ?_ _) | (with_reducible refine Kd.C_drew ?_)))
  (case side2=>exact (Kd.R_reads' b0.out).2.1)
  (case side3=>repeat (first | exact (Kd.R_reads' c0.out).2.2 | (with_reducible refine Kd.C_alloc ?_ _) | (with_reducible refine Kd.C_drewN ?_ _) | (with_reducible refine Kd.C_drew ?_)))
  (case side4=>exact (Kd.R_reads' c0.out).2.1)
  rintro e w' ⟨rfl,⟨nd,rfl⟩⟩
  refine ⟨_,rfl,?_⟩
  refine hz hK (fun hHeld=>?_)
  clear hK K
  refine nq 38 ?_
  refine pq 9 39 1023 HT_ ?_
  refine pq 10 40 2047 HT_ ?_
  refine pq 11 41 4095 HT_ ?_
  refine pq 12 42 8191 HT_ ?_
  refine pq 13 43 16383 HT_ ?_
  refine pq 14 44 32767 HT_ ?_
  refine pq 15 45 65535 HT_ ?_
  refine tq 16 46 131071 HT_ HW_ hHeld ?_
  refine oq 17 47 262143 HT_ (fun K hK=>?_)
  refine gq Try.func23 #[.int .i64 25] ?_
  with_reducible refine (numnahref07_Whole.calls 25 o1 o2 _ C4.out).mono ?_
  rintro e G8 ⟨rfl,hb⟩
  refine ⟨_,rfl,?_⟩
  replace b3:=rB b3 hb
  replace b0:=rB b0 hb
  replace b4:=rB b4 hb
  replace b6:=nB b6 hb
  replace b5:=rB b5 hb
  replace b7:=rB b7 hb
  replace c0:=rB c0 hb
  replace b1:=kB b1 hb
  replace b2:=kB b2 hb
  replace HB:=bB HB hb
  (try clear hb)
  refine hz hK (fun hHeld=>?_)
  clear hK K
  refine nq 47 ?_
  refine pq 18 48 524287 HT_ ?_
  refine pq 19 49 1048575 HT_ ?_
  refine pq 20 50 2097151 HT_ ?_
  refine tq 21 51 4194303 HT_ HW_ hHeld ?_
  refine oq 22 52 8388607 HT_ (fun K hK=>?_)
  refine gq Try.func23 #[.int .i64 75] ?_
  with_reducible refine (numnahref07_Whole.calls 75 o3 o4 _ C6.out).mono ?_
  rintro e G9 ⟨rfl,hb⟩
  refine ⟨_,rfl,?_⟩
  replace b3:=rB b3 hb
  replace b0:=rB b0 hb
  replace b4:=rB b4 hb
  replace b6:=nB b6 hb
  replace b5:=rB b5 hb
  replace b7:=rB b7 hb
  replace c0:=rB c0 hb
  replace b1:=kB b1 hb
  replace b2:=kB b2 hb
  replace HB:=bB HB hb
  (try clear hb)
  refine hz hK (fun hHeld=>?_)
  clear hK K
  refine nq 52 ?_
  refine pq 23 53 16777215 HT_ ?_
  refine pq 24 54 33554431 HT_ ?_
  refine pq 25 55 67108863 HT_ ?_
  refine pq 26 56 134217727 HT_ ?_
  refine pq 27 57 268435455 HT_ ?_
  refine pq 28 58 536870911 HT_ ?_
  refine pq 29 59 1073741823 HT_ ?_
  refine pq 30 60 2147483647 HT_ ?_
  refine oq 31 61 4294967295 HT_ (fun K hK=>?_)
  refine gq Try.func23 #[.int .i64 4] ?_
  with_reducible refine (numnahref07_Whole.calls 4 m2 m3 _ F2.out).mono ?_
  rintro e H0 ⟨rfl,hb⟩
  refine ⟨_,rfl,?_⟩
  replace b3:=rB b3 hb
  replace b0:=rB b0 hb
  replace b4:=rB b4 hb
  replace b6:=nB b6 hb
  replace b5:=rB b5 hb
  replace b7:=rB b7 hb
  replace c0:=rB c0 hb
  replace b1:=kB b1 hb
  replace b2:=kB b2 hb
  replace HB:=bB HB hb
  (try clear hb)
  refine hz hK (fun hHeld=>?_)
  clear hK K
  refine nq 61 ?_
  refine oq 32 62 8589934591 HT_ (fun K hK=>?_)
  refine gq Try.func23 #[.int .i64 6] ?_
  with_reducible refine (numnahref07_Whole.calls 6 m4 m5 _ F3.out).mono ?_
  rintro e H2 ⟨rfl,hb⟩
  refine ⟨_,rfl,?_⟩
  replace b3:=rB b3 hb
  replace b0:=rB b0 hb
  replace b4:=rB b4 hb
  replace b6:=nB b6 hb
  replace b5:=rB b5 hb
  replace b7:=rB b7 hb
  replace c0:=rB c0 hb
  replace b1:=kB b1 hb
  replace b2:=kB b2 hb
  replace HB:=bB HB hb
  (try clear hb)
  refine hz hK (fun hHeld=>?_)
  clear hK K
  refine nq 62 ?_
  refine oq 33 63 17179869183 HT_ (fun K hK=>?_)
  refine Kd.R_lit_step k23 _ 23 ?hg (N:=63) ?hd (xs:=([(⟨m2,m3⟩:S23),(⟨m4,m5⟩:S23)]:List (S23))) (inner:=[.int .i64 m2,.int .i64 m3,.int .i64 m4,.int .i64 m5]) (ok:=fun _=>True) (okp:=fun _=>True) ?hr ?hp (fun _ hk=>hk) trivial (Below.refl _ _) (Nat.le_refl _) (by simp) ?_;(case hd=>rfl);(case hg=>rfl);(case hr=>first | (go_simp;done) | (go_simp;rfl));(case hp=>exact (Reps.c2 (show Kd.M k23 _ _ _ (⟨m2,m3⟩:S23) [.int .i64 m2,.int .i64 m3] from (k23_mkM _ _ _ (⟨m2,m3⟩:S23) )) (Reps.c2 (show Kd.M k23 _ _ _ (⟨m4,m5⟩:S23) [.int .i64 m4,.int .i64 m5] from (k23_mkM _ _ _ (⟨m4,m5⟩:S23) )) (Reps.none _ _))))
  intro F6 H3 i7 hb hg_ hnew_
  clear hg_ hnew_
  (first | rw [← p7.out] at i7 | (simp only [Int.reduceToNat] at i7;rw [← p7.out] at i7))
  have l6:=A_ (Kd.R_lower (Kd.R_newB (Kd.R_newB (Kd.R_new' (Kd.R_new' (Kd.R_new' i7 (Kd.R_lt (rs b0))) (Kd.R_lt (rs b5))) (Kd.R_lt (rs c0))) (g:=b8) (o:=.cells #[.int .i64 d5,.int .i64 d7] 23 (0,0)) b1.out) (g:=b9) (o:=.cells #[.int .i64 d6,.int .i64 d8] 23 (0,0)) b2.out) (below_size HB.out))
  replace b3:=rB b3 hb
  replace b0:=A_ (Kd.R_elder' (rs b0) (Kd.R_base i7) hb)
  replace b4:=rB b4 hb
  replace b6:=A_ (Kd.N_elder' (ns b6) (Kd.R_base i7) hb)
  replace b5:=A_ (Kd.R_elder' (rs b5) (Kd.R_base i7) hb)
  replace b7:=rB b7 hb
  replace c0:=A_ (Kd.R_elder' (rs c0) (Kd.R_base i7) hb)
  replace b1:=kB b1 hb
  replace b2:=kB b2 hb
  replace HB:=bB HB hb
  clear hb i7
  obtain ⟨A0,A4,t3⟩:=Kd.R_slice b5.out
  (first | subst t3 | (injection t3 with h1 i4 h2;have i5:=h1.symm;have i6:=h2.symm;clear h1 i4 h2;subst i5;subst i6))
  obtain ⟨A5,A6,t4⟩:=Kd.R_slice l6.out
  (first | subst t4 | (injection t4 with h1 i4 h2;have i5:=h1.symm;have i6:=h2.symm;clear h1 i4 h2;subst i5;subst i6))
  refine hz hK (fun hHeld=>?_)
  clear hK K
  refine nq 63 ?_
  refine oq 34 64 34359738367 HT_ (fun K hK=>?_)
  refine gq Try.func33 #[.slice A0 m8.length A4,.slice A5 s7.length A6] ?_
  with_reducible refine (numnahref07_Same.calls k _ _ m8 _ _ s7 true _ ?side1 ?side2 ?side3 ?side4 F4.out).mono ?_
  (case side1=>repeat (first | exact (Kd.R_reads' b5.out).2.2 | (with_reducible refine Kd.C_alloc ?_ _) | (with_reducible refine Kd.C_drewN ?_ _) | (with_reducible refine Kd.C_drew ?_)))
  (case side2=>exact (Kd.R_reads' b5.out).2.1)
  (case side3=>repeat (first | exact (Kd.R_reads' l6.out).2.2 | (with_reducible refine Kd.C_alloc ?_ _) | (with_reducible refine Kd.C_drewN ?_ _) | (with_reducible refine Kd.C_drew ?_)))
  (case side4=>exact (Kd.R_reads' l6.out).2.1)
  rintro e w' ⟨rfl,⟨nd,rfl⟩⟩
  refine ⟨_,rfl,?_⟩
  refine hz hK (fun hHeld=>?_)
  clear hK K
  refine nq 64 ?_
  refine pq 35 65 68719476735 HT_ ?_
  refine pq 36 66 137438953471 HT_ ?_
  refine pq 37 67 274877906943 HT_ ?_
  refine pq 38 68 549755813887 HT_ ?_
  refine oq 39 69 1099511627775 HT_ (fun K hK=>?_)
  refine Kd.R_lit_step (Kd.int .i64) _ 3 ?hg (N:=69) ?hd (xs:=([1,0]:List Int)) (inner:=[.int .i64 1,.int .i64 0]) (ok:=fun _=>True) (okp:=fun _=>True) ?hr ?hp (fun _ hk=>hk) trivial (Below.refl _ _) (Nat.le_refl _) (by simp) ?_;(case hd=>rfl);(case hg=>rfl);(case hr=>first | (go_simp;done) | (go_simp;rfl));(case hp=>exact (Reps.one (show Kd.M (Kd.int .i64) _ _ _ 1 [.int .i64 1] from rfl) (Reps.one (show Kd.M (Kd.int .i64) _ _ _ 0 [.int .i64 0] from rfl) (Reps.none _ _))))
  intro F7 H4 i8 hb hg_ hnew_
  clear hg_ hnew_
  (first | rw [← p8.out] at i8 | (simp only [Int.reduceToNat] at i8;rw [← p8.out] at i8))
  have o0:=A_ (Kd.R_lower (Kd.R_new' (Kd.R_new' (Kd.R_new' i8 (Kd.R_lt (rs b3))) (Kd.R_lt (rs b4))) (Kd.R_lt (rs b7))) (below_size (bl HB)))
  replace b3:=A_ (Kd.R_elder' (rs b3) (Kd.R_base i8) hb)
  replace b0:=rB b0 hb
  replace b4:=A_ (Kd.R_elder' (rs b4) (Kd.R_base i8) hb)
  replace b6:=A_ (Kd.N_elder' (ns b6) (Kd.R_base i8) hb)
  replace b5:=rB b5 hb
  replace b7:=A_ (Kd.R_elder' (rs b7) (Kd.R_base i8) hb)
  replace c0:=rB c0 hb
  replace l6:=rB l6 hb
  replace b1:=kB b1 hb
  replace b2:=kB b2 hb
  replace HB:=bB HB hb
  clear hb i8
  obtain ⟨A7,A8,t5⟩:=Kd.R_slice b7.out
  (first | subst t5 | (injection t5 with h1 i4 h2;have i5:=h1.symm;have i6:=h2.symm;clear h1 i4 h2;subst i5;subst i6))
  obtain ⟨A9,B0,t6⟩:=Kd.R_slice o0.out
  (first | subst t6 | (injection t6 with h1 i4 h2;have i5:=h1.symm;have i6:=h2.symm;clear h1 i4 h2;subst i5;subst i6))
  refine hz hK (fun hHeld=>?_)
  clear hK K
  refine nq 69 ?_
  refine oq 40 70 2199023255551 HT_ (fun K hK=>?_)
  refine gq Try.func46 #[.slice A7 j7.length A8,.slice A9 s9.length B0] ?_
  with_reducible refine (numnahlaw07_ints.calls k _ _ j7 _ _ s9 d4 _ ?side1 ?side2 ?side3 ?side4 F5.out).mono ?_
  (case side1=>repeat (first | exact (Kd.R_reads' b7.out).2.2 | (with_reducible refine Kd.C_alloc ?_ _) | (with_reducible refine Kd.C_drewN ?_ _) | (with_reducible refine Kd.C_drew ?_)))
  (case side2=>exact (Kd.R_reads' b7.out).2.1)
  (case side3=>repeat (first | exact (Kd.R_reads' o0.out).2.2 | (with_reducible refine Kd.C_alloc ?_ _) | (with_reducible refine Kd.C_drewN ?_ _) | (with_reducible refine Kd.C_drew ?_)))
  (case side4=>exact (Kd.R_reads' o0.out).2.1)
  rintro e w' ⟨rfl,⟨nd,rfl⟩⟩
  refine ⟨_,rfl,?_⟩
  refine hz hK (fun hHeld=>?_)
  clear hK K
  refine nq 70 ?_
  refine pq 41 71 4398046511103 HT_ ?_
  refine pq 42 72 8796093022207 HT_ ?_
  refine done_ (done_of HT_.out (by kernel_rfl)) ?_
  try go_wp2
  go_meet
  case rel=>exact ⟨_,(!d4),rfl,H',⟨by first | omega | exact Nat.le_refl _⟩,⟨by (with_reducible repeat (first | refine blk_drewN ?_ _ | refine blk_drew ?_ | refine blk_alloc ?_ _));exact b1.out⟩,⟨by (with_reducible repeat (first | refine blk_drewN ?_ _ | refine blk_drew ?_ | refine blk_alloc ?_ _));exact b2.out⟩,⟨bl HB⟩⟩
 case rest =>
  clear y4
  obtain ⟨kq,m7,rfl,HA,H5,b1,b2,HB⟩:=hcut
  cases kq with
  | zero=>exact absurd HA.out (by simp [numnahlaw07_awake.j0])
  | succ H6 =>
   have H:=HA.out
   clear HA
   simp only [numnahlaw07_awake.j0] at H
   by_cases o5:m7 = true
   ·subst o5
    have H1:(some false) = some r:=by rw [if_pos rfl] at H;exact H
    clear H
    have H:=H1
    clear H1
    exact absurd ((Option.some.inj H).trans HRT.out) (by decide)
   replace o5:=Bool.eq_false_iff.mpr o5
   subst o5
   have H1:(some true) = some r:=by rw [if_neg (show ¬ (false = true) by decide)] at H;exact H
   clear H
   have H:=H1
   clear H1
   obtain rfl:=Option.some.inj H
   go_wp2
   go_ret
   exact ⟨rfl,bl HB⟩
theorem awake_now:numnahlaw07_awake.f 60 = some true:=by kernel_rfl
theorem numnahlaw07_awake.calls (k:Nat) (r:Bool) (w:World) (h:numnahlaw07_awake.f k = some r):Calls Try.prog 22 #[] w fun e w'=>e = .returned (.bool r) ∧ Below w.heap.size w w':=by
 obtain ⟨K,hK⟩:=Ev.of (fun k=>numnahlaw07_awake.mono k) h
 obtain ⟨K2,F8⟩:=Ev.of (fun k=>numnahlaw07_awake.mono k) awake_now
 obtain rfl:r = true:=Option.some.inj ((hK (K + K2) (by omega)).symm.trans (F8 (K + K2) (by omega)))
 exact numnahlaw07_awake.callsT k _ w h rfl
end Go.Proofs.Ytjohcjfmlhihbaa.G
namespace Go.Proofs.Ytjohcjfmlhihbaa.G
open Go.RowKit Go.Proofs.YtjohcjfmlhihbaaW.PrintWords Go.Proofs.YtjohcjfmlhihbaaW.PrintLast Go.Proofs.YtjohcjfmlhihbaaW.PrintMore
set_option maxHeartbeats 8000000
set_option maxRecDepth 100000
attribute [local go_sem] cond_true cond_false fld23_0 fld23_1 fld45_0 fld45_1 fld109_0 fld109_1 fld94_0 fld94_1 max2_int min2_int max_two min_two max_three min_three max_four min_four   -- for this text's walks alone
def shares_isValid.f (k:Nat) (b0:Int) (b1:Int):Option (Bool):=if b1 ≥ 1 then ((shares_gcd.f k (mx b0 (wrap64 (-b0))) b1).bind fun b4=>(some (b4 == 1))) else (some false)
theorem shares_isValid.mono:∀ a0 a1 k,LeO (shares_isValid.f k a0 a1) (shares_isValid.f (k + 1) a0 a1):=by
 intro a0 a1 k
 unfold shares_isValid.f
 repeat' first
   | (with_reducible exact shares_gcd.mono _ _ _)
   | (with_reducible exact LeO.refl _)
   | (with_reducible exact LeO.none _)
   | (with_reducible refine LeO.ite ?_ ?_)
   | (with_reducible refine LeO.bind ?_ (fun _=>?_))
   | exact shares_gcd.mono _ _ _
   | exact LeO.none _
   | refine LeO.ite ?_ ?_
   | refine LeO.bind ?_ (fun _=>?_)
theorem shares_isValid.calls (k:Nat) (b0:Int) (b1:Int) (r:Bool) (w:World) (h:shares_isValid.f k b0 b1 = some r) :
  Calls Try.prog 112 #[.agg #[.int .i64 b0,.int .i64 b1]] w fun e w'=>e = .returned (.bool r) ∧ Below w.heap.size w w':=by
 have e2:=Try.underlying23
 have HB:=Aside0.mk (Below.refl w.heap.size w)
 have H:(if b1 ≥ 1 then ((shares_gcd.f k (mx b0 (wrap64 (-b0))) b1).bind fun b4=>(some (b4 == 1))) else (some false)) = some r:=h
 clear h
 by_cases c2:b1 ≥ 1
 case neg =>
  rw [if_neg c2] at H
  have d0:decide (1 ≤ b1) = false:=decide_eq_false c2
  clear c2
  obtain rfl:=Option.some.inj H
  go_enter Try.func112,Try.ntmps112
  go_wp2_with (first | ((with_reducible refine gate_dst (N:=1) rfl ?_);(try (refine gate_guard (by rfl) ?_;dsimp only));refine box_event ?hg (N:=1) ?hd (cs:=#[.int .i64 b0,.int .i64 b1]) (t:=23) ?hr ?_;(case hd=>rfl);(case hg=>rfl);(case hr=>first | (go_simp;done) | (go_simp;rfl));intro b2 hg w7 hbox hb;have b7:=Aside0.mk (below_step (by repeat (first | (with_reducible first | exact HB.out | apply below_alloc | apply pw_below_drewN | apply below_drew1) | exact HB.out)) hb);have b8:=Aside0.mk (hbox);have b9:=Aside0.mk ((by rw [hg];exact (below_size (by repeat (first | (with_reducible first | exact HB.out | apply below_alloc | apply pw_below_drewN | apply below_drew1) | exact HB.out))):w.heap.size ≤ b2));have c0:=Aside0.mk ((by rw [hg];exact (below_size (by repeat (first | (with_reducible first | exact HB.out | apply below_alloc | apply pw_below_drewN | apply below_drew1) | exact HB.out))):w.heap.size ≤ b2));clear HB;have HB:=b7;have b3:=b8;have c1:=b9;have b5:=c0;clear b7 b8 b9 c0;clear hb hbox hg;have d1:w7.cell? ⟨b2,0,none⟩ = some (.int .i64 b0):=(blk_cell b3.out 0).trans rfl;have d2:w7.cell? ⟨b2,1,none⟩ = some (.int .i64 b1):=(blk_cell b3.out 1).trans rfl;have d3:=blk_frozen b3.out 0;have d4:=blk_frozen b3.out 1))
  go_ret
  exact ⟨by first | rfl | (simp [errW_none,errW_some] <;> rfl) | (simp [*,errW_none,errW_some] <;> rfl),by repeat (first | (with_reducible first | exact HB.out | apply below_alloc | apply pw_below_drewN | apply below_drew1 | refine below_set ?_ b5.out) | exact HB.out)⟩
 rw [if_pos c2] at H
 have d0:decide (1 ≤ b1) = true:=decide_eq_true c2
 clear c2
 obtain ⟨d5,b6⟩:∃ j_:Int,(mx b0 (wrap64 (-b0))) = j_:=⟨_,rfl⟩
 replace H:((shares_gcd.f k (d5) b1).bind fun b4=>(some (b4 == 1))) = some r:=by first | (rw [b6] at H;exact H) | (simp only [b6] at H ⊢;exact H)
 have e0:(if b0 < (wrap64 (-b0)) then (wrap64 (-b0)) else b0) = d5:=b6
 replace H:=Option.bind_eq_some_iff.mp H
 obtain ⟨b4,e1,H⟩:=H
 replace H:(some (b4 == 1)) = some r:=H
 have A4:=Aside0.mk e1
 clear e1
 obtain rfl:=Option.some.inj H
 go_enter Try.func112,Try.ntmps112
 go_wp2_with (first | ((with_reducible refine gate_dst (N:=1) rfl ?_);(try (refine gate_guard (by rfl) ?_;dsimp only));refine box_event ?hg (N:=1) ?hd (cs:=#[.int .i64 b0,.int .i64 b1]) (t:=23) ?hr ?_;(case hd=>rfl);(case hg=>rfl);(case hr=>first | (go_simp;done) | (go_simp;rfl));intro b2 hg w5 hbox hb;have b7:=Aside0.mk (below_step (by repeat (first | (with_reducible first | exact HB.out | apply below_alloc | apply pw_below_drewN | apply below_drew1) | exact HB.out)) hb);have b8:=Aside0.mk (hbox);have b9:=Aside0.mk ((by rw [hg];exact (below_size (by repeat (first | (with_reducible first | exact HB.out | apply below_alloc | apply pw_below_drewN | apply below_drew1) | exact HB.out))):w.heap.size ≤ b2));have c0:=Aside0.mk ((by rw [hg];exact (below_size (by repeat (first | (with_reducible first | exact HB.out | apply below_alloc | apply pw_below_drewN | apply below_drew1) | exact HB.out))):w.heap.size ≤ b2));clear HB;have HB:=b7;have b3:=b8;have c1:=b9;have b5:=c0;clear b7 b8 b9 c0;clear hb hbox hg;have d6:w5.cell? ⟨b2,0,none⟩ = some (.int .i64 b0):=(blk_cell b3.out 0).trans rfl;have d7:w5.cell? ⟨b2,1,none⟩ = some (.int .i64 b1):=(blk_cell b3.out 1).trans rfl;have d8:=blk_frozen b3.out 0;have d9:=blk_frozen b3.out 1) | (go_at_call 116;(with_reducible refine (shares_gcd.calls k d5 b1 b4 _ A4.out).mono ?_);rintro e w' ⟨rfl,⟨nd,rfl⟩⟩))
 go_ret
 exact ⟨by first | rfl | (simp [errW_none,errW_some] <;> rfl) | (simp only [← b6];first | rfl | (simp [errW_none,errW_some] <;> rfl)) | (simp [*,errW_none,errW_some] <;> rfl),by repeat (first | (with_reducible first | exact HB.out | apply below_alloc | apply pw_below_drewN | apply below_drew1 | refine below_set ?_ b5.out) | exact HB.out)⟩
def numnahref07_gcd.l0:Nat → Int → Int → Option (Int)
 | 0,_,_=>none
 | k + 1,x0,x1=>if x1 > 0 then (if x1 = 0 then (none) else (numnahref07_gcd.l0 k x1 (Int.tmod x0 x1))) else (some x0)
def numnahref07_gcd.f (k:Nat) (a0:Int) (a1:Int):Option (Int):=numnahref07_gcd.l0 k a0 a1
theorem numnahref07_gcd.mono_l:∀ k,(∀ y0 y1,LeO (numnahref07_gcd.l0 k y0 y1) (numnahref07_gcd.l0 (k + 1) y0 y1))
 | 0=>fun _ _ r h=>by simp [numnahref07_gcd.l0] at h
 | k + 1=>by
  have b2:=numnahref07_gcd.mono_l k
  intro y0 y1
  unfold numnahref07_gcd.l0
  repeat' first
  | (with_reducible exact b2 _ _)
  | (with_reducible exact LeO.refl _)
  | (with_reducible exact LeO.none _)
  | (with_reducible refine LeO.ite ?_ ?_)
  | (with_reducible refine LeO.bind ?_ (fun _=>?_))
  | exact b2 _ _
  | exact LeO.none _
  | refine LeO.ite ?_ ?_
  | refine LeO.bind ?_ (fun _=>?_)
theorem numnahref07_gcd.mono:∀ a0 a1 k,LeO (numnahref07_gcd.f k a0 a1) (numnahref07_gcd.f (k + 1) a0 a1):=by
 intro a0 a1 k
 have b2:=numnahref07_gcd.mono_l k
 unfold numnahref07_gcd.f
 repeat' first
   | (with_reducible exact b2 _ _)
   | (with_reducible exact LeO.refl _)
   | (with_reducible exact LeO.none _)
   | (with_reducible refine LeO.ite ?_ ?_)
   | (with_reducible refine LeO.bind ?_ (fun _=>?_))
   | exact b2 _ _
   | exact LeO.none _
   | refine LeO.ite ?_ ?_
   | refine LeO.bind ?_ (fun _=>?_)
theorem numnahref07_gcd.calls (k:Nat) (a0:Int) (a1:Int) (r:Int) (w:World) (h:numnahref07_gcd.f k a0 a1 = some r) :
  Calls Try.prog 73 #[.int .i64 a0,.int .i64 a1] w fun e w'=>e = .returned (.int .i64 r) ∧ Drawn0 w w':=by
 have H:(numnahref07_gcd.l0 k a0 a1) = some r:=h
 clear h
 have H':=Aside0.mk H
 clear H
 go_enter Try.func73,Try.ntmps73
 go_wp2
 go_loopg [0,1] k (fun kq v0 v1 w'=>∃ (b1:Int) (b0:Int),v0 = .int .i64 b1 ∧ v1 = .int .i64 b0 ∧ Aside0 (numnahref07_gcd.l0 kq b1 b0 = some r) ∧ Aside0 (kq ≤ k) ∧ Drawn0 w w')
 case atStart=>exact ⟨(a0),(a1),(by first | rfl | (simp;done) | (simp [*];done)),(by first | rfl | (simp;done) | (simp [*];done)),H',⟨Nat.le_refl _⟩,by repeat (first | exact Drawn0.refl _ | apply Drawn0.step)⟩
 case round =>
  clear H'
  try clear p2
  obtain ⟨b1,b0,rfl,rfl,HA,b4,⟨m1,rfl⟩⟩:=hrel
  cases gk with
  | zero=>exact absurd HA.out (by simp [numnahref07_gcd.l0])
  | succ k1 =>
   have H:=HA.out
   clear HA
   simp only [numnahref07_gcd.l0] at H
   by_cases c3:b0 > 0
   case neg =>
    rw [if_neg c3] at H
    have b3:decide (0 < b0) = false:=decide_eq_false c3
    clear c3
    obtain rfl:=Option.some.inj H
    go_wp2
    go_ret
    exact ⟨by first | rfl | (simp;done) | (simp [*];done),by repeat (first | exact Drawn0.refl _ | apply Drawn0.step)⟩
   rw [if_pos c3] at H
   have b3:decide (0 < b0) = true:=decide_eq_true c3
   clear c3
   by_cases c4:b0 = 0
   ·rw [if_pos c4] at H
    exact absurd H (by simp)
   rw [if_neg c4] at H
   have b5:(b0 == 0) = false:=beq_eq_false_iff_ne.mpr c4
   have b6:(b0 != 0) = true:=bne_iff_ne.mpr c4
   have H':=Aside0.mk H
   clear H
   go_wp2
   go_roundg k1
   case measure=>have:=b4.out;omega
   case rel=>exact ⟨(b0),(Int.tmod b1 b0),(by first | rfl | (simp;done) | (simp [*];done)),(by first | rfl | (simp;done) | (simp [*];done)),H',⟨by have:=b4.out;omega⟩,by repeat (first | exact Drawn0.refl _ | apply Drawn0.step)⟩
def numnahref07_Reduced.f (k:Nat) (a0:Int) (a1:Int):Option (Int × Int):=(numnahref07_gcd.f k (mx a0 (wrap64 (-a0))) a1).bind fun b0=>(if b0 = 0 then (none) else (some (wrap64 (Int.tdiv a0 b0),wrap64 (Int.tdiv a1 b0))))
theorem numnahref07_Reduced.mono:∀ a0 a1 k,LeO (numnahref07_Reduced.f k a0 a1) (numnahref07_Reduced.f (k + 1) a0 a1):=by
 intro a0 a1 k
 unfold numnahref07_Reduced.f
 repeat' first
   | (with_reducible exact numnahref07_gcd.mono _ _ _)
   | (with_reducible exact LeO.refl _)
   | (with_reducible exact LeO.none _)
   | (with_reducible refine LeO.ite ?_ ?_)
   | (with_reducible refine LeO.bind ?_ (fun _=>?_))
   | exact numnahref07_gcd.mono _ _ _
   | exact LeO.none _
   | refine LeO.ite ?_ ?_
   | refine LeO.bind ?_ (fun _=>?_)
def numnahref07_Reduced.T2:Bool × List (List Nat × List Nat):=(true,[([],[]),([],[]),([0,1],[0,1]),([],[]),([],[]),([3,4],[3,4]),([2,5],[2,5]),([6,0,1,2,3,4,5,6],[6])])
def numnahref07_Reduced.B2:List Nat:=[0,0,3,0,0,24,63,127]
theorem numnahref07_Reduced.tab2:rtab .any (opsOf Try.f34 2) = numnahref07_Reduced.T2:=by kernel_rfl
theorem numnahref07_Reduced.bits2:waitsOk numnahref07_Reduced.T2.2 numnahref07_Reduced.B2 = true:=by kernel_rfl
theorem numnahref07_Reduced.calls (k:Nat) (a0:Int) (a1:Int) (r1:Int) (r2:Int) (w:World) (h:numnahref07_Reduced.f k a0 a1 = some (r1,r2)) :
  Calls Try.prog 34 #[.int .i64 a0,.int .i64 a1] w fun e w'=>e = .returned (.agg #[.int .i64 r1,.int .i64 r2]) ∧ Below w.heap.size w w':=by
 have c1:=Try.underlying23
 have HB:=A_ (Below.refl w.heap.size w)
 have H:((numnahref07_gcd.f k (mx a0 (wrap64 (-a0))) a1).bind fun b0=>(if b0 = 0 then (none) else (some (wrap64 (Int.tdiv a0 b0),wrap64 (Int.tdiv a1 b0))))) = some (r1,r2):=h
 clear h
 obtain ⟨b6,b3⟩:∃ j_:Int,(mx a0 (wrap64 (-a0))) = j_:=⟨_,rfl⟩
 replace H:((numnahref07_gcd.f k (b6) a1).bind fun b0=>(if b0 = 0 then (none) else (some (wrap64 (Int.tdiv a0 b0),wrap64 (Int.tdiv a1 b0))))) = some (r1,r2):=by first | (rw [b3] at H;exact H) | (simp only [b3] at H ⊢;exact H)
 have b7:(if a0 < (wrap64 (-a0)) then (wrap64 (-a0)) else a0) = b6:=b3
 replace H:=Option.bind_eq_some_iff.mp H
 obtain ⟨b0,b8,H⟩:=H
 replace H:(if b0 = 0 then (none) else (some (wrap64 (Int.tdiv a0 b0),wrap64 (Int.tdiv a1 b0)))) = some (r1,r2):=H
 have A4:=A_ b8
 clear b8
 by_cases c5:b0 = 0
 ·rw [if_pos c5] at H
  exact absurd H (by simp)
 rw [if_neg c5] at H
 have d0:(b0 == 0) = false:=beq_eq_false_iff_ne.mpr c5
 have d1:(b0 != 0) = true:=bne_iff_ne.mpr c5
 simp only [Option.some.injEq,Prod.mk.injEq] at H
 obtain ⟨rfl,rfl⟩:=H
 go_enter Try.func34,Try.ntmps34
 try go_wp2_with (first | ((with_reducible refine gate_dst (N:=4) rfl ?_);refine box_event ?hg (N:=4) ?hd (cs:=#[.int .i64 0,.int .i64 0]) (t:=23) ?hr ?_;(case hd=>rfl);(case hg=>rfl);(case hr=>first | (go_simp;done) | (go_simp;rfl));intro b2 hg w6 hbox hb;have b1:=A_ hbox;have b4:=gw hg HB;have b5:=b4;replace HB:=bB HB hb;clear hb hbox hg) | ((with_reducible refine gate_callee (f:=73) rfl ?_);refine goesL_ (some 11) rfl rfl Try.func73 (by kernel_rfl) rfl #[.int .i64 b6,.int .i64 a1] rfl (by (try simp only [List.map_toArray,List.map_cons,List.map_nil]);first | done | (simp only [b3];rfl) | rfl | (simp only [List.length_drop,List.length_take];rfl)) ?_;(with_reducible refine (numnahref07_gcd.calls k b6 a1 b0 _ A4.out).mono ?_);rintro e w' ⟨rfl,⟨nd,rfl⟩⟩;refine ⟨_,rfl,?_⟩;(try (rw [drewN_self w6];generalize hq_:World.drewN w6 _ = w6;have b9:Aside0 (w6.heap[b2]? = some (.cells #[.int .i64 0,.int .i64 0] 23 (0,0))):=⟨by rw [← hq_];exact (kb b1)⟩;have c0:Aside0 (Below w.heap.size w w6):=⟨by rw [← hq_];exact (bl HB)⟩;clear b1 HB hq_;have b1:=b9;have HB:=c0;clear b9 c0))))
 replace b1:=A_ (blk_drew b1.out)
 replace HB:=A_ (below_drew1 HB.out)
 refine start_ (n:=8) (S:=fun w'=>True) (ds:=[]) (ba 8 0) (by kernel_rfl) rfl rfl trivial (fun hHeld=>?_);refine with_tabW numnahref07_Reduced.tab2 numnahref07_Reduced.bits2 (fun HT_ HW_=>?_)
 generalize w6.drew = w7 at b1 HB hHeld ⊢
 refine pq 0 12 1 HT_ ?_
 refine pq 1 13 3 HT_ ?_
 refine pq 2 14 7 HT_ ?_
 refine pq 3 15 15 HT_ ?_
 refine pq 4 16 31 HT_ ?_
 refine pq 5 17 63 HT_ ?_
 refine pq 6 18 127 HT_ ?_
 refine one_ (i:=7) (N:=none) (ba 8 255) rfl rfl (one_of HT_.out (by kernel_rfl)) (by decide) (fun K hK=>?_)
 have d4:w7.cell? ⟨b2,0,none⟩ = some (.int .i64 0):=cz b1 0
 have d2:=blk_frozen b1.out 0
 have d5:w7.cell? ⟨b2,1,none⟩ = some (.int .i64 0):=cz b1 1
 have d3:=blk_frozen b1.out 1
 refine skip_ (w1:=?_) (by rfl) rfl ?_ ?_
 rotate_left
 ·go_simp
  rfl
 refine hK.out _ _ trivial (fun hHeld=>?_)
 clear hK K
 refine done_ (done_of HT_.out (by kernel_rfl)) ?_
 try go_wp2
 refine bodyPost_ret (results_cell_row rfl _ _ b2 23 #[.int .i64 (wrap64 (Int.tdiv a0 b0)),.int .i64 (wrap64 (Int.tdiv a1 b0))] (0,0) _ rfl (by (with_reducible repeat (first | refine blk_drewN ?_ _ | refine blk_drew ?_ | refine blk_alloc ?_ _));refine blk_put (cs:=#[.int .i64 (wrap64 (Int.tdiv a0 b0)),.int .i64 0]) ?_ 1 _ rfl;(with_reducible repeat (first | refine blk_drewN ?_ _ | refine blk_drew ?_ | refine blk_alloc ?_ _));refine blk_put (cs:=#[.int .i64 0,.int .i64 0]) ?_ 0 _ rfl;(with_reducible repeat (first | refine blk_drewN ?_ _ | refine blk_drew ?_ | refine blk_alloc ?_ _));exact b1.out) Try.underlying23 rfl (by kernel_rfl)) rfl ?_
 exact ⟨by first | rfl | (simp [errW_none,errW_some] <;> rfl) | (simp only [← b3];first | rfl | (simp [errW_none,errW_some] <;> rfl)) | (simp [*,errW_none,errW_some] <;> rfl),by repeat (first | (with_reducible first | exact HB.out | apply below_alloc | apply pw_below_drewN | apply below_drew1 | refine below_set ?_ b5.out) | exact HB.out)⟩
def numnahref07_Add.f (k:Nat) (b5:Int) (b2:Int) (b6:Int) (b3:Int):Option (Int × Int):=(numnahref07_Reduced.f k (wrap64 ((wrap64 (b5 * b3)) + (wrap64 (b6 * b2)))) (wrap64 (b2 * b3))).bind fun b7=>(some (b7.1,b7.2))
theorem numnahref07_Add.mono:∀ a0 a1 a2 a3 k,LeO (numnahref07_Add.f k a0 a1 a2 a3) (numnahref07_Add.f (k + 1) a0 a1 a2 a3):=by
 intro a0 a1 a2 a3 k
 unfold numnahref07_Add.f
 repeat' first
   | (with_reducible exact numnahref07_Reduced.mono _ _ _)
   | (with_reducible exact LeO.refl _)
   | (with_reducible exact LeO.none _)
   | (with_reducible refine LeO.ite ?_ ?_)
   | (with_reducible refine LeO.bind ?_ (fun _=>?_))
   | exact numnahref07_Reduced.mono _ _ _
   | exact LeO.none _
   | refine LeO.ite ?_ ?_
   | refine LeO.bind ?_ (fun _=>?_)
theorem numnahref07_Add.calls (k:Nat) (b5:Int) (b2:Int) (b6:Int) (b3:Int) (r1:Int) (r2:Int) (w:World) (h:numnahref07_Add.f k b5 b2 b6 b3 = some (r1,r2)) :
  Calls Try.prog 28 #[.agg #[.int .i64 b5,.int .i64 b2],.agg #[.int .i64 b6,.int .i64 b3]] w fun e w'=>e = .returned (.agg #[.int .i64 r1,.int .i64 r2]) ∧ Below w.heap.size w w':=by
 have h8:=Try.underlying23
 have HB:=A_ (Below.refl w.heap.size w)
 have H:((numnahref07_Reduced.f k (wrap64 ((wrap64 (b5 * b3)) + (wrap64 (b6 * b2)))) (wrap64 (b2 * b3))).bind fun b7=>(some (b7.1,b7.2))) = some (r1,r2):=h
 clear h
 replace H:=Option.bind_eq_some_iff.mp H
 obtain ⟨⟨d3,d6⟩,A30,H⟩:=H
 replace H:(some (d3,d6)) = some (r1,r2):=H
 have A3:=A_ A30
 clear A30
 simp only [Option.some.injEq,Prod.mk.injEq] at H
 obtain ⟨rfl,rfl⟩:=H
 go_enter Try.func28,Try.ntmps28
 go_wp2_with (first | ((with_reducible refine gate_dst (N:=2) rfl ?_);refine box_event ?hg (N:=2) ?hd (cs:=#[.int .i64 b5,.int .i64 b2]) (t:=23) ?hr ?_;(case hd=>rfl);(case hg=>rfl);(case hr=>first | (go_simp;done) | (go_simp;rfl));intro d4 hg w4 hbox hb;have b0:=A_ hbox;have d7:=gw hg HB;have d8:=d7;replace HB:=bB HB hb;clear hb hbox hg) | ((with_reducible refine gate_dst (N:=3) rfl ?_);refine box_event ?hg (N:=3) ?hd (cs:=#[.int .i64 b6,.int .i64 b3]) (t:=23) ?hr ?_;(case hd=>rfl);(case hg=>rfl);(case hr=>first | (go_simp;done) | (go_simp;rfl));intro d5 hg w5 hbox hb;have b1:=A_ hbox;have d9:=gw hg HB;have e0:=d9;have b8:=nl hg b0;have b9:=ng hg b0;replace b0:=kB b0 hb;replace HB:=bB HB hb;clear hb hbox hg) | ((with_reducible refine gate_dst (N:=4) rfl ?_);refine box_event ?hg (N:=4) ?hd (cs:=#[.int .i64 0,.int .i64 0]) (t:=23) ?hr ?_;(case hd=>rfl);(case hg=>rfl);(case hr=>first | (go_simp;done) | (go_simp;rfl));intro d2 hg w6 hbox hb;have b4:=A_ hbox;have e1:=gw hg HB;have e2:=e1;have c0:=nl hg b0;have c1:=ng hg b0;have d0:=nl hg b1;have d1:=ng hg b1;replace b0:=kB b0 hb;replace b1:=kB b1 hb;replace HB:=bB HB hb;clear hb hbox hg;have h9:=b8.out;have i0:=b9.out;have i1:=c0.out;have i2:=c1.out;have h1:w6.cell? ⟨d4,0,none⟩ = some (.int .i64 b5):=cz b0 0;have h2:w6.cell? ⟨d4,1,none⟩ = some (.int .i64 b2):=cz b0 1;have h3:=blk_frozen b0.out 0;have h4:=blk_frozen b0.out 1;have h5:=d0.out;have h6:=d1.out;have e3:w6.cell? ⟨d5,0,none⟩ = some (.int .i64 b6):=cz b1 0;have e4:w6.cell? ⟨d5,1,none⟩ = some (.int .i64 b3):=cz b1 1;have e5:=blk_frozen b1.out 0;have e6:=blk_frozen b1.out 1) | ((with_reducible refine gate_callee (f:=34) rfl ?_);refine goesL_ (some 21) rfl rfl Try.func34 (by kernel_rfl) rfl #[.int .i64 (wrap64 ((wrap64 (b5 * b3)) + (wrap64 (b6 * b2)))),.int .i64 (wrap64 (b2 * b3))] rfl (by (try simp only [List.map_toArray,List.map_cons,List.map_nil]);first | done | rfl | (simp only [List.length_drop,List.length_take];rfl)) ?_;(with_reducible refine (numnahref07_Reduced.calls k (wrap64 ((wrap64 (b5 * b3)) + (wrap64 (b6 * b2)))) (wrap64 (b2 * b3)) d3 d6 _ A3.out).mono ?_);rintro e h7 ⟨rfl,hb⟩;refine ⟨_,rfl,?_⟩;replace b0:=kB b0 hb;replace b1:=kB b1 hb;replace b4:=kB b4 hb;replace HB:=bB HB hb;(try clear hb);have e7:h7.cell? ⟨d2,0,none⟩ = some (.int .i64 0):=cz b4 0;have e8:h7.cell? ⟨d2,1,none⟩ = some (.int .i64 0):=cz b4 1;have e9:=blk_frozen b4.out 0;have h0:=blk_frozen b4.out 1))
 refine bodyPost_ret (results_cell_row rfl _ _ d2 23 #[.int .i64 d3,.int .i64 d6] (0,0) _ rfl (by (with_reducible repeat (first | refine blk_drewN ?_ _ | refine blk_drew ?_ | refine blk_alloc ?_ _));refine blk_put (cs:=#[.int .i64 d3,.int .i64 0]) ?_ 1 _ rfl;(with_reducible repeat (first | refine blk_drewN ?_ _ | refine blk_drew ?_ | refine blk_alloc ?_ _));refine blk_put (cs:=#[.int .i64 0,.int .i64 0]) ?_ 0 _ rfl;(with_reducible repeat (first | refine blk_drewN ?_ _ | refine blk_drew ?_ | refine blk_alloc ?_ _));exact b4.out) Try.underlying23 rfl (by kernel_rfl)) rfl ?_
 exact ⟨by first | rfl | (simp [errW_none,errW_some] <;> rfl) | (simp [*,errW_none,errW_some] <;> rfl),by repeat (first | (with_reducible first | exact HB.out | apply below_alloc | apply pw_below_drewN | apply below_drew1 | refine below_set ?_ d8.out | refine below_set ?_ e0.out | refine below_set ?_ e2.out) | exact HB.out)⟩
def numnahref07_Less.f (b1:Int) (b2:Int) (b3:Int) (b4:Int):Option (Bool):=some (decide ((wrap64 (b1 * b4)) < (wrap64 (b3 * b2))))
theorem numnahref07_Less.calls (b1:Int) (b2:Int) (b3:Int) (b4:Int) (r:Bool) (w:World) (h:numnahref07_Less.f b1 b2 b3 b4 = some r) :
  Calls Try.prog 30 #[.agg #[.int .i64 b1,.int .i64 b2],.agg #[.int .i64 b3,.int .i64 b4]] w fun e w'=>e = .returned (.bool r) ∧ Below w.heap.size w w':=by
 have e0:=Try.underlying23
 have HB:=A_ (Below.refl w.heap.size w)
 have H:(some (decide ((wrap64 (b1 * b4)) < (wrap64 (b3 * b2))))) = some r:=h
 clear h
 obtain rfl:=Option.some.inj H
 go_enter Try.func30,Try.ntmps30
 go_wp2_with (first | ((with_reducible refine gate_dst (N:=2) rfl ?_);refine box_event ?hg (N:=2) ?hd (cs:=#[.int .i64 b1,.int .i64 b2]) (t:=23) ?hr ?_;(case hd=>rfl);(case hg=>rfl);(case hr=>first | (go_simp;done) | (go_simp;rfl));intro b8 hg w3 hbox hb;have b0:=A_ hbox;have c0:=gw hg HB;have c1:=c0;replace HB:=bB HB hb;clear hb hbox hg) | ((with_reducible refine gate_dst (N:=3) rfl ?_);refine box_event ?hg (N:=3) ?hd (cs:=#[.int .i64 b3,.int .i64 b4]) (t:=23) ?hr ?_;(case hd=>rfl);(case hg=>rfl);(case hr=>first | (go_simp;done) | (go_simp;rfl));intro b9 hg w4 hbox hb;have b5:=A_ hbox;have d0:=gw hg HB;have d1:=d0;have b6:=nl hg b0;have b7:=ng hg b0;replace b0:=kB b0 hb;replace HB:=bB HB hb;clear hb hbox hg;have e1:=b6.out;have e2:=b7.out;have d2:w4.cell? ⟨b8,0,none⟩ = some (.int .i64 b1):=cz b0 0;have d3:w4.cell? ⟨b8,1,none⟩ = some (.int .i64 b2):=cz b0 1;have d4:=blk_frozen b0.out 0;have d5:=blk_frozen b0.out 1;have d6:w4.cell? ⟨b9,0,none⟩ = some (.int .i64 b3):=cz b5 0;have d7:w4.cell? ⟨b9,1,none⟩ = some (.int .i64 b4):=cz b5 1;have d8:=blk_frozen b5.out 0;have d9:=blk_frozen b5.out 1))
 go_ret
 exact ⟨by first | rfl | (simp [errW_none,errW_some] <;> rfl) | (simp [*,errW_none,errW_some] <;> rfl),by repeat (first | (with_reducible first | exact HB.out | apply below_alloc | apply pw_below_drewN | apply below_drew1 | refine below_set ?_ c1.out | refine below_set ?_ d1.out) | exact HB.out)⟩
def numnahref07_Sub.f (k:Nat) (b5:Int) (b2:Int) (b6:Int) (b3:Int):Option (Int × Int):=(numnahref07_Reduced.f k (wrap64 ((wrap64 (b5 * b3)) - (wrap64 (b6 * b2)))) (wrap64 (b2 * b3))).bind fun b7=>(some (b7.1,b7.2))
theorem numnahref07_Sub.mono:∀ a0 a1 a2 a3 k,LeO (numnahref07_Sub.f k a0 a1 a2 a3) (numnahref07_Sub.f (k + 1) a0 a1 a2 a3):=by
 intro a0 a1 a2 a3 k
 unfold numnahref07_Sub.f
 repeat' first
   | (with_reducible exact numnahref07_Reduced.mono _ _ _)
   | (with_reducible exact LeO.refl _)
   | (with_reducible exact LeO.none _)
   | (with_reducible refine LeO.ite ?_ ?_)
   | (with_reducible refine LeO.bind ?_ (fun _=>?_))
   | exact numnahref07_Reduced.mono _ _ _
   | exact LeO.none _
   | refine LeO.ite ?_ ?_
   | refine LeO.bind ?_ (fun _=>?_)
theorem numnahref07_Sub.calls (k:Nat) (b5:Int) (b2:Int) (b6:Int) (b3:Int) (r1:Int) (r2:Int) (w:World) (h:numnahref07_Sub.f k b5 b2 b6 b3 = some (r1,r2)) :
  Calls Try.prog 31 #[.agg #[.int .i64 b5,.int .i64 b2],.agg #[.int .i64 b6,.int .i64 b3]] w fun e w'=>e = .returned (.agg #[.int .i64 r1,.int .i64 r2]) ∧ Below w.heap.size w w':=by
 have h8:=Try.underlying23
 have HB:=A_ (Below.refl w.heap.size w)
 have H:((numnahref07_Reduced.f k (wrap64 ((wrap64 (b5 * b3)) - (wrap64 (b6 * b2)))) (wrap64 (b2 * b3))).bind fun b7=>(some (b7.1,b7.2))) = some (r1,r2):=h
 clear h
 replace H:=Option.bind_eq_some_iff.mp H
 obtain ⟨⟨d3,d6⟩,A30,H⟩:=H
 replace H:(some (d3,d6)) = some (r1,r2):=H
 have A3:=A_ A30
 clear A30
 simp only [Option.some.injEq,Prod.mk.injEq] at H
 obtain ⟨rfl,rfl⟩:=H
 go_enter Try.func31,Try.ntmps31
 go_wp2_with (first | ((with_reducible refine gate_dst (N:=2) rfl ?_);refine box_event ?hg (N:=2) ?hd (cs:=#[.int .i64 b5,.int .i64 b2]) (t:=23) ?hr ?_;(case hd=>rfl);(case hg=>rfl);(case hr=>first | (go_simp;done) | (go_simp;rfl));intro d4 hg w4 hbox hb;have b0:=A_ hbox;have d7:=gw hg HB;have d8:=d7;replace HB:=bB HB hb;clear hb hbox hg) | ((with_reducible refine gate_dst (N:=3) rfl ?_);refine box_event ?hg (N:=3) ?hd (cs:=#[.int .i64 b6,.int .i64 b3]) (t:=23) ?hr ?_;(case hd=>rfl);(case hg=>rfl);(case hr=>first | (go_simp;done) | (go_simp;rfl));intro d5 hg w5 hbox hb;have b1:=A_ hbox;have d9:=gw hg HB;have e0:=d9;have b8:=nl hg b0;have b9:=ng hg b0;replace b0:=kB b0 hb;replace HB:=bB HB hb;clear hb hbox hg) | ((with_reducible refine gate_dst (N:=4) rfl ?_);refine box_event ?hg (N:=4) ?hd (cs:=#[.int .i64 0,.int .i64 0]) (t:=23) ?hr ?_;(case hd=>rfl);(case hg=>rfl);(case hr=>first | (go_simp;done) | (go_simp;rfl));intro d2 hg w6 hbox hb;have b4:=A_ hbox;have e1:=gw hg HB;have e2:=e1;have c0:=nl hg b0;have c1:=ng hg b0;have d0:=nl hg b1;have d1:=ng hg b1;replace b0:=kB b0 hb;replace b1:=kB b1 hb;replace HB:=bB HB hb;clear hb hbox hg;have h9:=b8.out;have i0:=b9.out;have i1:=c0.out;have i2:=c1.out;have h1:w6.cell? ⟨d4,0,none⟩ = some (.int .i64 b5):=cz b0 0;have h2:w6.cell? ⟨d4,1,none⟩ = some (.int .i64 b2):=cz b0 1;have h3:=blk_frozen b0.out 0;have h4:=blk_frozen b0.out 1;have h5:=d0.out;have h6:=d1.out;have e3:w6.cell? ⟨d5,0,none⟩ = some (.int .i64 b6):=cz b1 0;have e4:w6.cell? ⟨d5,1,none⟩ = some (.int .i64 b3):=cz b1 1;have e5:=blk_frozen b1.out 0;have e6:=blk_frozen b1.out 1) | ((with_reducible refine gate_callee (f:=34) rfl ?_);refine goesL_ (some 21) rfl rfl Try.func34 (by kernel_rfl) rfl #[.int .i64 (wrap64 ((wrap64 (b5 * b3)) - (wrap64 (b6 * b2)))),.int .i64 (wrap64 (b2 * b3))] rfl (by (try simp only [List.map_toArray,List.map_cons,List.map_nil]);first | done | rfl | (simp only [List.length_drop,List.length_take];rfl)) ?_;(with_reducible refine (numnahref07_Reduced.calls k (wrap64 ((wrap64 (b5 * b3)) - (wrap64 (b6 * b2)))) (wrap64 (b2 * b3)) d3 d6 _ A3.out).mono ?_);rintro e h7 ⟨rfl,hb⟩;refine ⟨_,rfl,?_⟩;replace b0:=kB b0 hb;replace b1:=kB b1 hb;replace b4:=kB b4 hb;replace HB:=bB HB hb;(try clear hb);have e7:h7.cell? ⟨d2,0,none⟩ = some (.int .i64 0):=cz b4 0;have e8:h7.cell? ⟨d2,1,none⟩ = some (.int .i64 0):=cz b4 1;have e9:=blk_frozen b4.out 0;have h0:=blk_frozen b4.out 1))
 refine bodyPost_ret (results_cell_row rfl _ _ d2 23 #[.int .i64 d3,.int .i64 d6] (0,0) _ rfl (by (with_reducible repeat (first | refine blk_drewN ?_ _ | refine blk_drew ?_ | refine blk_alloc ?_ _));refine blk_put (cs:=#[.int .i64 d3,.int .i64 0]) ?_ 1 _ rfl;(with_reducible repeat (first | refine blk_drewN ?_ _ | refine blk_drew ?_ | refine blk_alloc ?_ _));refine blk_put (cs:=#[.int .i64 0,.int .i64 0]) ?_ 0 _ rfl;(with_reducible repeat (first | refine blk_drewN ?_ _ | refine blk_drew ?_ | refine blk_alloc ?_ _));exact b4.out) Try.underlying23 rfl (by kernel_rfl)) rfl ?_
 exact ⟨by first | rfl | (simp [errW_none,errW_some] <;> rfl) | (simp [*,errW_none,errW_some] <;> rfl),by repeat (first | (with_reducible first | exact HB.out | apply below_alloc | apply pw_below_drewN | apply below_drew1 | refine below_set ?_ d8.out | refine below_set ?_ e0.out | refine below_set ?_ e2.out) | exact HB.out)⟩
def numnahref07_Half.f (k:Nat) (b2:Int) (b3:Int):Option (Int × Int):=(numnahref07_Reduced.f k b2 (wrap64 (2 * b3))).bind fun b6=>(some (b6.1,b6.2))
theorem numnahref07_Half.mono:∀ a0 a1 k,LeO (numnahref07_Half.f k a0 a1) (numnahref07_Half.f (k + 1) a0 a1):=by
 intro a0 a1 k
 unfold numnahref07_Half.f
 repeat' first
   | (with_reducible exact numnahref07_Reduced.mono _ _ _)
   | (with_reducible exact LeO.refl _)
   | (with_reducible exact LeO.none _)
   | (with_reducible refine LeO.ite ?_ ?_)
   | (with_reducible refine LeO.bind ?_ (fun _=>?_))
   | exact numnahref07_Reduced.mono _ _ _
   | exact LeO.none _
   | refine LeO.ite ?_ ?_
   | refine LeO.bind ?_ (fun _=>?_)
theorem numnahref07_Half.calls (k:Nat) (b2:Int) (b3:Int) (r1:Int) (r2:Int) (w:World) (h:numnahref07_Half.f k b2 b3 = some (r1,r2)) :
  Calls Try.prog 67 #[.agg #[.int .i64 b2,.int .i64 b3]] w fun e w'=>e = .returned (.agg #[.int .i64 r1,.int .i64 r2]) ∧ Below w.heap.size w w':=by
 have e8:=Try.underlying23
 have HB:=Aside0.mk (Below.refl w.heap.size w)
 have H:((numnahref07_Reduced.f k b2 (wrap64 (2 * b3))).bind fun b6=>(some (b6.1,b6.2))) = some (r1,r2):=h
 clear h
 replace H:=Option.bind_eq_some_iff.mp H
 obtain ⟨⟨c0,d3⟩,A20,H⟩:=H
 replace H:(some (c0,d3)) = some (r1,r2):=H
 have A2:=Aside0.mk A20
 clear A20
 simp only [Option.some.injEq,Prod.mk.injEq] at H
 obtain ⟨rfl,rfl⟩:=H
 go_enter Try.func67,Try.ntmps67
 go_wp2_with (first | ((with_reducible refine gate_dst (N:=1) rfl ?_);refine box_event ?hg (N:=1) ?hd (cs:=#[.int .i64 b2,.int .i64 b3]) (t:=23) ?hr ?_;(case hd=>rfl);(case hg=>rfl);(case hr=>first | (go_simp;done) | (go_simp;rfl));intro b1 hg w3 hbox hb;have c1:=Aside0.mk (below_step (by repeat (first | (with_reducible first | exact HB.out | apply below_alloc | apply pw_below_drewN | apply below_drew1) | exact HB.out)) hb);have d0:=Aside0.mk (hbox);have d1:=Aside0.mk ((by rw [hg];exact (below_size (by repeat (first | (with_reducible first | exact HB.out | apply below_alloc | apply pw_below_drewN | apply below_drew1) | exact HB.out))):w.heap.size ≤ b1));have d4:=Aside0.mk ((by rw [hg];exact (below_size (by repeat (first | (with_reducible first | exact HB.out | apply below_alloc | apply pw_below_drewN | apply below_drew1) | exact HB.out))):w.heap.size ≤ b1));clear HB;have HB:=c1;have b0:=d0;have e3:=d1;have b7:=d4;clear c1 d0 d1 d4;clear hb hbox hg) | ((with_reducible refine gate_dst (N:=2) rfl ?_);refine box_event ?hg (N:=2) ?hd (cs:=#[.int .i64 0,.int .i64 0]) (t:=23) ?hr ?_;(case hd=>rfl);(case hg=>rfl);(case hr=>first | (go_simp;done) | (go_simp;rfl));intro b4 hg w4 hbox hb;have c1:=Aside0.mk (blk_below (g:=b1) (o:=.cells #[.int .i64 b2,.int .i64 b3] 23 (0,0)) (by (with_reducible repeat (first | refine blk_drewN ?_ _ | refine blk_drew ?_ | refine blk_alloc ?_ _));exact b0.out) hb);have d0:=Aside0.mk (below_step (by repeat (first | (with_reducible first | exact HB.out | apply below_alloc | apply pw_below_drewN | apply below_drew1 | refine below_set ?_ b7.out) | exact HB.out)) hb);have d1:=Aside0.mk (hbox);have d4:=Aside0.mk ((by rw [hg];exact (below_size (by repeat (first | (with_reducible first | exact HB.out | apply below_alloc | apply pw_below_drewN | apply below_drew1 | refine below_set ?_ b7.out) | exact HB.out))):w.heap.size ≤ b4));have e4:=Aside0.mk ((by rw [hg];exact (below_size (by repeat (first | (with_reducible first | exact HB.out | apply below_alloc | apply pw_below_drewN | apply below_drew1 | refine below_set ?_ b7.out) | exact HB.out))):w.heap.size ≤ b4));have e5:=Aside0.mk ((by rw [hg];exact Nat.ne_of_lt (blk_lt (g:=b1) (o:=.cells #[.int .i64 b2,.int .i64 b3] 23 (0,0)) (by (with_reducible repeat (first | refine blk_drewN ?_ _ | refine blk_drew ?_ | refine blk_alloc ?_ _));exact b0.out)):b1 ≠ b4));have e6:=Aside0.mk ((by rw [hg];exact Nat.ne_of_gt (blk_lt (g:=b1) (o:=.cells #[.int .i64 b2,.int .i64 b3] 23 (0,0)) (by (with_reducible repeat (first | refine blk_drewN ?_ _ | refine blk_drew ?_ | refine blk_alloc ?_ _));exact b0.out)):b4 ≠ b1));clear b0;clear HB;have b0:=c1;have HB:=d0;have b5:=d1;have e7:=d4;have d2:=e4;have b8:=e5;have b9:=e6;clear c1 d0 d1 d4 e4 e5 e6;clear hb hbox hg;have e9:=b8.out;have h0:=b9.out;have d5:w4.cell? ⟨b1,0,none⟩ = some (.int .i64 b2):=(blk_cell b0.out 0).trans rfl;have d6:w4.cell? ⟨b1,1,none⟩ = some (.int .i64 b3):=(blk_cell b0.out 1).trans rfl;have d7:=blk_frozen b0.out 0;have d8:=blk_frozen b0.out 1) | ((with_reducible refine gate_callee (f:=34) rfl ?_);refine goesL_ (some 8) rfl rfl Try.func34 (by kernel_rfl) rfl #[.int .i64 b2,.int .i64 (wrap64 (2 * b3))] rfl (by (try simp only [List.map_toArray,List.map_cons,List.map_nil]);first | done | rfl | (simp only [List.length_drop,List.length_take];rfl)) ?_;(with_reducible refine (numnahref07_Reduced.calls k b2 (wrap64 (2 * b3)) c0 d3 _ A2.out).mono ?_);rintro e w7 ⟨rfl,hb⟩;refine ⟨_,rfl,?_⟩;have c1:=Aside0.mk (blk_below (g:=b1) (o:=.cells #[.int .i64 b2,.int .i64 b3] 23 (0,0)) (by (with_reducible repeat (first | refine blk_drewN ?_ _ | refine blk_drew ?_ | refine blk_alloc ?_ _));exact b0.out) hb);have d0:=Aside0.mk (blk_below (g:=b4) (o:=.cells #[.int .i64 0,.int .i64 0] 23 (0,0)) (by (with_reducible repeat (first | refine blk_drewN ?_ _ | refine blk_drew ?_ | refine blk_alloc ?_ _));exact b5.out) hb);have d1:=Aside0.mk (below_step (by repeat (first | (with_reducible first | exact HB.out | apply below_alloc | apply pw_below_drewN | apply below_drew1 | refine below_set ?_ b7.out | refine below_set ?_ d2.out) | exact HB.out)) hb);clear b0;clear b5;clear HB;have b0:=c1;have b5:=d0;have HB:=d1;clear c1 d0 d1;(try clear hb);have d9:w7.cell? ⟨b4,0,none⟩ = some (.int .i64 0):=(blk_cell b5.out 0).trans rfl;have e0:w7.cell? ⟨b4,1,none⟩ = some (.int .i64 0):=(blk_cell b5.out 1).trans rfl;have e1:=blk_frozen b5.out 0;have e2:=blk_frozen b5.out 1))
 refine bodyPost_ret (results_cell_row rfl _ _ b4 23 #[.int .i64 c0,.int .i64 d3] (0,0) _ rfl (by (with_reducible repeat (first | refine blk_drewN ?_ _ | refine blk_drew ?_ | refine blk_alloc ?_ _));refine blk_put (cs:=#[.int .i64 c0,.int .i64 0]) ?_ 1 _ rfl;(with_reducible repeat (first | refine blk_drewN ?_ _ | refine blk_drew ?_ | refine blk_alloc ?_ _));refine blk_put (cs:=#[.int .i64 0,.int .i64 0]) ?_ 0 _ rfl;(with_reducible repeat (first | refine blk_drewN ?_ _ | refine blk_drew ?_ | refine blk_alloc ?_ _));exact b5.out) Try.underlying23 rfl (by kernel_rfl)) rfl ?_
 exact ⟨by first | rfl | (simp [errW_none,errW_some] <;> rfl) | (simp [*,errW_none,errW_some] <;> rfl),by repeat (first | (with_reducible first | exact HB.out | apply below_alloc | apply pw_below_drewN | apply below_drew1 | refine below_set ?_ b7.out | refine below_set ?_ d2.out) | exact HB.out)⟩
def numnahref07_Within.f (k:Nat) (b1:Int) (b2:Int) (a1:Int) (a2:Int) (a3:Int):Option (Bool):=if b2 ≥ 1 then (if b2 ≤ a3 then (if b1 ≥ a1 then (if b1 ≤ a2 then ((numnahref07_gcd.f k (mx b1 (wrap64 (-b1))) b2).bind fun b6=>(some (b6 == 1))) else (some false)) else (some false)) else (some false)) else (some false)
theorem numnahref07_Within.mono:∀ a0 a1 a2 a3 a4 k,LeO (numnahref07_Within.f k a0 a1 a2 a3 a4) (numnahref07_Within.f (k + 1) a0 a1 a2 a3 a4):=by
 intro a0 a1 a2 a3 a4 k
 unfold numnahref07_Within.f
 repeat' first
   | (with_reducible exact numnahref07_gcd.mono _ _ _)
   | (with_reducible exact LeO.refl _)
   | (with_reducible exact LeO.none _)
   | (with_reducible refine LeO.ite ?_ ?_)
   | (with_reducible refine LeO.bind ?_ (fun _=>?_))
   | exact numnahref07_gcd.mono _ _ _
   | exact LeO.none _
   | refine LeO.ite ?_ ?_
   | refine LeO.bind ?_ (fun _=>?_)
theorem numnahref07_Within.calls (k:Nat) (b1:Int) (b2:Int) (a1:Int) (a2:Int) (a3:Int) (r:Bool) (w:World) (h:numnahref07_Within.f k b1 b2 a1 a2 a3 = some r) :
  Calls Try.prog 69 #[.agg #[.int .i64 b1,.int .i64 b2],.int .i64 a1,.int .i64 a2,.int .i64 a3] w fun e w'=>e = .returned (.bool r) ∧ Below w.heap.size w w':=by
 have h8:=Try.underlying23
 have HB:=A_ (Below.refl w.heap.size w)
 have H:(if b2 ≥ 1 then (if b2 ≤ a3 then (if b1 ≥ a1 then (if b1 ≤ a2 then ((numnahref07_gcd.f k (mx b1 (wrap64 (-b1))) b2).bind fun b6=>(some (b6 == 1))) else (some false)) else (some false)) else (some false)) else (some false)) = some r:=h
 clear h
 by_cases c5:b2 ≥ 1
 case neg =>
  rw [if_neg c5] at H
  have e7:decide (1 ≤ b2) = false:=decide_eq_false c5
  clear c5
  obtain rfl:=Option.some.inj H
  go_enter Try.func69,Try.ntmps69
  go_wp2_with (first | ((with_reducible refine gate_dst (N:=4) rfl ?_);(try (refine gate_guard (by rfl) ?_;dsimp only));refine box_event ?hg (N:=4) ?hd (cs:=#[.int .i64 b1,.int .i64 b2]) (t:=23) ?hr ?_;(case hd=>rfl);(case hg=>rfl);(case hr=>first | (go_simp;done) | (go_simp;rfl));intro b3 hg h2 hbox hb;have b0:=A_ hbox;have b4:=gw hg HB;have b5:=b4;replace HB:=bB HB hb;clear hb hbox hg;have b9:h2.cell? ⟨b3,0,none⟩ = some (.int .i64 b1):=cz b0 0;have c0:h2.cell? ⟨b3,1,none⟩ = some (.int .i64 b2):=cz b0 1;have c1:=blk_frozen b0.out 0;have d0:=blk_frozen b0.out 1))
  go_ret
  exact ⟨rfl,by repeat (first | (with_reducible first | exact HB.out | apply below_alloc | apply pw_below_drewN | apply below_drew1 | refine below_set ?_ b5.out) | exact HB.out)⟩
 rw [if_pos c5] at H
 have e7:decide (1 ≤ b2) = true:=decide_eq_true c5
 clear c5
 by_cases c6:b2 ≤ a3
 case neg =>
  rw [if_neg c6] at H
  have e8:decide (b2 ≤ a3) = false:=decide_eq_false c6
  clear c6
  obtain rfl:=Option.some.inj H
  go_enter Try.func69,Try.ntmps69
  go_wp2_with (first | ((with_reducible refine gate_dst (N:=4) rfl ?_);(try (refine gate_guard (by rfl) ?_;dsimp only));refine box_event ?hg (N:=4) ?hd (cs:=#[.int .i64 b1,.int .i64 b2]) (t:=23) ?hr ?_;(case hd=>rfl);(case hg=>rfl);(case hr=>first | (go_simp;done) | (go_simp;rfl));intro b3 hg h3 hbox hb;have b0:=A_ hbox;have b4:=gw hg HB;have b5:=b4;replace HB:=bB HB hb;clear hb hbox hg;have d1:h3.cell? ⟨b3,0,none⟩ = some (.int .i64 b1):=cz b0 0;have d2:h3.cell? ⟨b3,1,none⟩ = some (.int .i64 b2):=cz b0 1;have d3:=blk_frozen b0.out 0;have d4:=blk_frozen b0.out 1))
  go_ret
  exact ⟨rfl,by repeat (first | (with_reducible first | exact HB.out | apply below_alloc | apply pw_below_drewN | apply below_drew1 | refine below_set ?_ b5.out) | exact HB.out)⟩
 rw [if_pos c6] at H
 have e8:decide (b2 ≤ a3) = true:=decide_eq_true c6
 clear c6
 by_cases c7:b1 ≥ a1
 case neg =>
  rw [if_neg c7] at H
  have e9:decide (a1 ≤ b1) = false:=decide_eq_false c7
  clear c7
  obtain rfl:=Option.some.inj H
  go_enter Try.func69,Try.ntmps69
  go_wp2_with (first | ((with_reducible refine gate_dst (N:=4) rfl ?_);(try (refine gate_guard (by rfl) ?_;dsimp only));refine box_event ?hg (N:=4) ?hd (cs:=#[.int .i64 b1,.int .i64 b2]) (t:=23) ?hr ?_;(case hd=>rfl);(case hg=>rfl);(case hr=>first | (go_simp;done) | (go_simp;rfl));intro b3 hg h4 hbox hb;have b0:=A_ hbox;have b4:=gw hg HB;have b5:=b4;replace HB:=bB HB hb;clear hb hbox hg;have d5:h4.cell? ⟨b3,0,none⟩ = some (.int .i64 b1):=cz b0 0;have d6:h4.cell? ⟨b3,1,none⟩ = some (.int .i64 b2):=cz b0 1;have d7:=blk_frozen b0.out 0;have d8:=blk_frozen b0.out 1))
  go_ret
  exact ⟨rfl,by repeat (first | (with_reducible first | exact HB.out | apply below_alloc | apply pw_below_drewN | apply below_drew1 | refine below_set ?_ b5.out) | exact HB.out)⟩
 rw [if_pos c7] at H
 have e9:decide (a1 ≤ b1) = true:=decide_eq_true c7
 clear c7
 by_cases c8:b1 ≤ a2
 case neg =>
  rw [if_neg c8] at H
  have h0:decide (b1 ≤ a2) = false:=decide_eq_false c8
  clear c8
  obtain rfl:=Option.some.inj H
  go_enter Try.func69,Try.ntmps69
  go_wp2_with (first | ((with_reducible refine gate_dst (N:=4) rfl ?_);(try (refine gate_guard (by rfl) ?_;dsimp only));refine box_event ?hg (N:=4) ?hd (cs:=#[.int .i64 b1,.int .i64 b2]) (t:=23) ?hr ?_;(case hd=>rfl);(case hg=>rfl);(case hr=>first | (go_simp;done) | (go_simp;rfl));intro b3 hg h5 hbox hb;have b0:=A_ hbox;have b4:=gw hg HB;have b5:=b4;replace HB:=bB HB hb;clear hb hbox hg;have d9:h5.cell? ⟨b3,0,none⟩ = some (.int .i64 b1):=cz b0 0;have e0:h5.cell? ⟨b3,1,none⟩ = some (.int .i64 b2):=cz b0 1;have e1:=blk_frozen b0.out 0;have e2:=blk_frozen b0.out 1))
  go_ret
  exact ⟨rfl,by repeat (first | (with_reducible first | exact HB.out | apply below_alloc | apply pw_below_drewN | apply below_drew1 | refine below_set ?_ b5.out) | exact HB.out)⟩
 rw [if_pos c8] at H
 have h0:decide (b1 ≤ a2) = true:=decide_eq_true c8
 clear c8
 obtain ⟨h1,b7⟩:∃ j_:Int,(mx b1 (wrap64 (-b1))) = j_:=⟨_,rfl⟩
 replace H:((numnahref07_gcd.f k (h1) b2).bind fun b6=>(some (b6 == 1))) = some r:=by first | (rw [b7] at H;exact H) | (simp only [b7] at H ⊢;exact H)
 have h6:(if b1 < (wrap64 (-b1)) then (wrap64 (-b1)) else b1) = h1:=b7
 replace H:=Option.bind_eq_some_iff.mp H
 obtain ⟨b6,b8,H⟩:=H
 replace H:(some (b6 == 1)) = some r:=H
 have h9:=A_ b8
 clear b8
 obtain rfl:=Option.some.inj H
 go_enter Try.func69,Try.ntmps69
 go_wp2_with (first | ((with_reducible refine gate_dst (N:=4) rfl ?_);(try (refine gate_guard (by rfl) ?_;dsimp only));refine box_event ?hg (N:=4) ?hd (cs:=#[.int .i64 b1,.int .i64 b2]) (t:=23) ?hr ?_;(case hd=>rfl);(case hg=>rfl);(case hr=>first | (go_simp;done) | (go_simp;rfl));intro b3 hg h7 hbox hb;have b0:=A_ hbox;have b4:=gw hg HB;have b5:=b4;replace HB:=bB HB hb;clear hb hbox hg;have e3:h7.cell? ⟨b3,0,none⟩ = some (.int .i64 b1):=cz b0 0;have e4:h7.cell? ⟨b3,1,none⟩ = some (.int .i64 b2):=cz b0 1;have e5:=blk_frozen b0.out 0;have e6:=blk_frozen b0.out 1) | (go_at_call 73;(with_reducible refine (numnahref07_gcd.calls k h1 b2 b6 _ h9.out).mono ?_);rintro e w' ⟨rfl,⟨nd,rfl⟩⟩))
 go_ret
 exact ⟨by first | rfl | (simp [errW_none,errW_some] <;> rfl) | (simp only [← b7];first | rfl | (simp [errW_none,errW_some] <;> rfl)) | (simp [*,errW_none,errW_some] <;> rfl),by repeat (first | (with_reducible first | exact HB.out | apply below_alloc | apply pw_below_drewN | apply below_drew1 | refine below_set ?_ b5.out) | exact HB.out)⟩
end Go.Proofs.Ytjohcjfmlhihbaa.G
namespace Go.Proofs.Ytjohcjfmlhihbaa.P
open Go Go.RowKit Go.Proofs.Ytjohcjfmlhihbaa.G
open Go.Proofs.YtjohcjfmlhihbaaW.PrintWords Go.Proofs.YtjohcjfmlhihbaaW.PrintMore
theorem wrap_id {x:Int} (h0:-9223372036854775808 ≤ x) (h1:x ≤ 9223372036854775807):wrap64 x = x:=by unfold wrap64;omega
theorem wrap_abs {x:Int} (h:x.natAbs < 9223372036854775808):wrap64 x = x:=by unfold wrap64;omega
theorem wrap_nat {x:Nat} (h:x < 9223372036854775808):wrap64 (x:Int) = (x:Int):=by unfold wrap64;omega
theorem ref_gcd_l:∀ k a b,numnahref07_gcd.l0 k a b = shares_gcd.l0 k a b
 | 0,_,_=>rfl
 | k + 1,a,b=>by rw [numnahref07_gcd.l0,shares_gcd.l0,ref_gcd_l k]
theorem ref_gcd (k:Nat) (a b:Int):numnahref07_gcd.f k a b = shares_gcd.f k a b:=ref_gcd_l k a b
theorem ref_reduced (k:Nat) (a b:Int):numnahref07_Reduced.f k a b = shares_frac.f k a b:=by unfold numnahref07_Reduced.f shares_frac.f;rw [ref_gcd]
theorem gcd_l0:∀ (k a b:Nat),b < k → shares_gcd.l0 k (a:Int) (b:Int) = some ((Nat.gcd a b:Nat):Int)
 | k + 1,a,b,h=>by
  rw [shares_gcd.l0]
  by_cases h0:(b:Int) > 0
  ·rw [if_pos h0,if_neg (by omega)]
   have hm:Int.tmod (a:Int) (b:Int) = ((a % b:Nat):Int):=by
    rw [Int.tmod_eq_emod_of_nonneg (by omega)];rfl
   have hb:0 < b:=by omega
   have hlt:=Nat.mod_lt a hb
   rw [hm,gcd_l0 k b (a % b) (by omega),Nat.gcd_comm a b,Nat.gcd_rec b a,Nat.gcd_comm]
  ·rw [if_neg h0]
   have hb:b = 0:=by omega
   subst hb
   rw [Nat.gcd_zero_right]
theorem ev_gcd (a b:Nat):Ev (fun k=>shares_gcd.f k (a:Int) (b:Int)) ((Nat.gcd a b:Nat):Int):=⟨b + 1,fun k hk=>gcd_l0 k a b (by omega)⟩
theorem mx_abs {n:Int} (h:n.natAbs < 9223372036854775808):mx n (wrap64 (-n)) = (n.natAbs:Int):=by
 rw [wrap_abs (by rw [Int.natAbs_neg];exact h)]
 unfold mx
 split <;> omega
theorem ev_frac (n:Int) (d:Nat) (hd:0 < d) (hn:n.natAbs < 9223372036854775808) (hd2:d < 9223372036854775808):Ev (fun k=>shares_frac.f k n (d:Int)) ((mkRat n d).num,((mkRat n d).den:Int)):=by
 unfold shares_frac.f
 rw [mx_abs hn]
 refine Ev.bind (ev_gcd n.natAbs d) ?_
 have hg:Nat.gcd n.natAbs d ≠ 0:=fun e=>by have:=Nat.eq_zero_of_gcd_eq_zero_right e;omega
 refine Ev.congr (fun k=>if_neg (by omega)) ?_
 rw [red_num n (by omega),red_den n (by omega)]
 have h1:=num_le n d
 have h2:=den_le (n:=n) (d:=d) (by omega)
 rw [wrap_abs (by omega),wrap_nat (by omega)]
 exact Ev.now _
theorem ev_add {p q:Rat} (h:Fits p q):Ev (fun k=>shares_add.f k p.num (p.den:Int) q.num (q.den:Int)) ((p + q).num,((p + q).den:Int)):=by
 unfold shares_add.f
 refine Ev.bind (ev_gcd p.den q.den) ?_
 have hp:=den_pos p
 have hq:=den_pos q
 have h1:=h.num
 have h2:=h.den
 obtain ⟨g,hg⟩:∃ g,g = Nat.gcd p.den q.den:=⟨_,rfl⟩
 have hs:=add_small p q g hg
 have g1:g ∣ p.den:=by rw [hg];exact Nat.gcd_dvd_left _ _
 have g2:g ∣ q.den:=by rw [hg];exact Nat.gcd_dvd_right _ _
 have g0:0 < g:=Nat.pos_of_dvd_of_pos g1 hp
 rw [← hg]
 refine Ev.congr (fun k=>if_neg (by omega)) ?_
 rw [tdiv_nat,tdiv_nat]
 have hpd:p.den / g ≤ p.den:=Nat.div_le_self _ _
 have hqd:q.den / g ≤ q.den:=Nat.div_le_self _ _
 have hp1:1 ≤ p.den / g:=Nat.div_pos (Nat.le_of_dvd hp g1) g0
 have hpD:p.den ≤ p.den * q.den:=Nat.le_mul_of_pos_right _ hq
 have hqD:q.den ≤ p.den * q.den:=Nat.le_mul_of_pos_left _ hp
 rw [wrap_nat (by omega:q.den / g < _),wrap_nat (by omega:p.den / g < _)]
 have a1:(p.num * ((q.den / g:Nat):Int)).natAbs ≤ p.num.natAbs * q.den:=by
  rw [Int.natAbs_mul,Int.natAbs_natCast];exact Nat.mul_le_mul_left _ hqd
 have a2:(q.num * ((p.den / g:Nat):Int)).natAbs ≤ q.num.natAbs * p.den:=by
  rw [Int.natAbs_mul,Int.natAbs_natCast];exact Nat.mul_le_mul_left _ hpd
 have a3:p.den / g * q.den ≤ p.den * q.den:=Nat.mul_le_mul_right _ hpd
 rw [wrap_abs (by omega:(p.num * ((q.den / g:Nat):Int)).natAbs < _),wrap_abs (by omega:(q.num * ((p.den / g:Nat):Int)).natAbs < _)]
 have a4:=Int.natAbs_add_le (p.num * ((q.den / g:Nat):Int)) (q.num * ((p.den / g:Nat):Int))
 rw [wrap_abs (by omega:(p.num * ((q.den / g:Nat):Int) + q.num * ((p.den / g:Nat):Int)).natAbs < _)]
 have e:((p.den / g:Nat):Int) * (q.den:Int) = ((p.den / g * q.den:Nat):Int):=by push_cast;rfl
 rw [e,wrap_nat (by omega:p.den / g * q.den < _)]
 have hpos:0 < p.den / g * q.den:=Nat.mul_pos hp1 hq
 refine Ev.bind (ev_frac _ _ hpos (by omega) (by omega)) ?_
 rw [hs]
 exact Ev.now _
theorem ev_minus {p q:Rat} (h:Fits p q):Ev (fun k=>shares_minus.f k p.num (p.den:Int) q.num (q.den:Int)) ((p - q).num,((p - q).den:Int)):=by
 unfold shares_minus.f
 have h1:=h.num
 have h2:=den_pos p
 have h3:q.num.natAbs ≤ q.num.natAbs * p.den:=Nat.le_mul_of_pos_right _ h2
 have e:wrap64 (-q.num) = (-q).num:=by rw [Rat.neg_num,wrap_abs (by rw [Int.natAbs_neg];omega)]
 rw [e]
 refine Ev.bind (a:=((p + -q).num,((p + -q).den:Int))) ?_ (by rw [sub_neg];exact Ev.now _)
 have:=ev_add (p:=p) (q:=-q) h.neg
 rw [Rat.neg_den] at this
 exact this
theorem ev_over (q:Rat) {n:Nat} (hn:0 < n) (h1:q.num.natAbs < 9223372036854775808) (h2:q.den * n < 9223372036854775808):Ev (fun k=>shares_over.f k q.num (q.den:Int) (n:Int)) ((q / (n:Rat)).num,((q / (n:Rat)).den:Int)):=by
 unfold shares_over.f
 have e:(q.den:Int) * (n:Int) = ((q.den * n:Nat):Int):=by push_cast;rfl
 rw [e,wrap_nat h2]
 refine Ev.bind (ev_frac _ _ (Nat.mul_pos (den_pos q) hn) h1 h2) ?_
 rw [mk_over q hn]
 exact Ev.now _
def cmpR (p q:Rat):Int:=if p < q then -1 else if q < p then 1 else 0
theorem cmpR_le (p q:Rat):cmpR p q ≤ 0 ↔ p ≤ q:=by
 unfold cmpR
 split
 ·constructor <;> intro _ <;> grind
 ·split
  ·constructor <;> intro _ <;> grind
  ·constructor <;> intro _ <;> grind
theorem cmpR_lt (p q:Rat):cmpR p q < 0 ↔ p < q:=by
 unfold cmpR
 split
 ·constructor <;> intro _ <;> grind
 ·split
  ·constructor <;> intro _ <;> grind
  ·constructor <;> intro _ <;> grind
theorem ev_compare {p q:Rat} (h:Fits p q):Ev (fun k=>shares_compare.f k p.num (p.den:Int) q.num (q.den:Int)) (cmpR p q):=by
 unfold shares_compare.f
 refine Ev.bind (ev_minus h) ?_
 unfold cmp_Compare_int.f cmp_isNaN_int.f
 simp only [Option.bind_some,bne_self_eq_false]
 rw [if_neg (by decide),if_neg (by decide)]
 unfold cmpR
 by_cases h1:p < q
 ·rw [if_pos ((sign_lt p q).2 h1),if_pos h1];exact Ev.now _
 ·rw [if_neg (fun e=>h1 ((sign_lt p q).1 e)),if_neg h1]
  by_cases h2:q < p
  ·rw [if_pos ((sign_gt p q).2 h2),if_pos h2];exact Ev.now _
  ·rw [if_neg (fun e=>h2 ((sign_gt p q).1 e)),if_neg h2];exact Ev.now _
theorem ev_smaller {p q:Rat} (h:Fits p q):Ev (fun k=>shares_smaller.f k p.num (p.den:Int) q.num (q.den:Int)) ((min p q).num,((min p q).den:Int)):=by
 unfold shares_smaller.f
 refine Ev.bind (ev_compare h) ?_
 rw [Rat.min_def]
 by_cases hpq:p ≤ q
 ·rw [if_pos ((cmpR_le p q).2 hpq),if_pos hpq];exact Ev.now _
 ·rw [if_neg (fun e=>hpq ((cmpR_le p q).1 e)),if_neg hpq];exact Ev.now _
theorem mk_add (p q:Rat):mkRat (p.num * (q.den:Int) + q.num * (p.den:Int)) (p.den * q.den) = p + q:=(Rat.add_def' p q).symm
theorem ev_radd {p q:Rat} (h:Fits p q):Ev (fun k=>numnahref07_Add.f k p.num (p.den:Int) q.num (q.den:Int)) ((p + q).num,((p + q).den:Int)):=by
 unfold numnahref07_Add.f
 have hp:=den_pos p
 have hq:=den_pos q
 have h1:=h.num
 have h2:=h.den
 have a1:(p.num * (q.den:Int)).natAbs = p.num.natAbs * q.den:=by rw [Int.natAbs_mul,Int.natAbs_natCast]
 have a2:(q.num * (p.den:Int)).natAbs = q.num.natAbs * p.den:=by rw [Int.natAbs_mul,Int.natAbs_natCast]
 have a4:=Int.natAbs_add_le (p.num * (q.den:Int)) (q.num * (p.den:Int))
 rw [wrap_abs (by omega:(p.num * (q.den:Int)).natAbs < _),wrap_abs (by omega:(q.num * (p.den:Int)).natAbs < _),wrap_abs (by omega:(p.num * (q.den:Int) + q.num * (p.den:Int)).natAbs < _)]
 have e:(p.den:Int) * (q.den:Int) = ((p.den * q.den:Nat):Int):=by push_cast;rfl
 rw [e,wrap_nat h2]
 simp only [ref_reduced]
 refine Ev.bind (ev_frac _ _ (Nat.mul_pos hp hq) (by omega) h2) ?_
 rw [mk_add]
 exact Ev.now _
theorem ev_rsub {p q:Rat} (h:Fits p q):Ev (fun k=>numnahref07_Sub.f k p.num (p.den:Int) q.num (q.den:Int)) ((p - q).num,((p - q).den:Int)):=by
 unfold numnahref07_Sub.f
 have hp:=den_pos p
 have hq:=den_pos q
 have h1:=h.num
 have h2:=h.den
 have a1:(p.num * (q.den:Int)).natAbs = p.num.natAbs * q.den:=by rw [Int.natAbs_mul,Int.natAbs_natCast]
 have a2:(q.num * (p.den:Int)).natAbs = q.num.natAbs * p.den:=by rw [Int.natAbs_mul,Int.natAbs_natCast]
 have a4:(p.num * (q.den:Int) - q.num * (p.den:Int)).natAbs ≤ (p.num * (q.den:Int)).natAbs + (q.num * (p.den:Int)).natAbs:=by omega
 rw [wrap_abs (by omega:(p.num * (q.den:Int)).natAbs < _),wrap_abs (by omega:(q.num * (p.den:Int)).natAbs < _),wrap_abs (by omega:(p.num * (q.den:Int) - q.num * (p.den:Int)).natAbs < _)]
 have e:(p.den:Int) * (q.den:Int) = ((p.den * q.den:Nat):Int):=by push_cast;rfl
 rw [e,wrap_nat h2]
 simp only [ref_reduced]
 refine Ev.bind (ev_frac _ _ (Nat.mul_pos hp hq) (by omega) h2) ?_
 have:mkRat (p.num * (q.den:Int) - q.num * (p.den:Int)) (p.den * q.den) = p - q:=(Rat.sub_def' p q).symm
 rw [this]
 exact Ev.now _
theorem ev_rhalf {q:Rat} (h1:q.num.natAbs < 9223372036854775808) (h2:2 * q.den < 9223372036854775808):Ev (fun k=>numnahref07_Half.f k q.num (q.den:Int)) ((q / 2).num,((q / 2).den:Int)):=by
 unfold numnahref07_Half.f
 have e:2 * (q.den:Int) = ((q.den * 2:Nat):Int):=by push_cast;omega
 rw [e,wrap_nat (by omega)]
 simp only [ref_reduced]
 refine Ev.bind (ev_frac _ _ (by have:=den_pos q;omega) h1 (by omega)) ?_
 have e2:mkRat q.num (q.den * 2) = q / 2:=by
  have:=mk_over q (n:=2) (by omega)
  exact this
 rw [e2]
 exact Ev.now _
theorem rless {p q:Rat} (h:Fits p q):numnahref07_Less.f p.num (p.den:Int) q.num (q.den:Int) = some (decide (p < q)):=by
 unfold numnahref07_Less.f
 have h1:=h.num
 have a1:(p.num * (q.den:Int)).natAbs = p.num.natAbs * q.den:=by rw [Int.natAbs_mul,Int.natAbs_natCast]
 have a2:(q.num * (p.den:Int)).natAbs = q.num.natAbs * p.den:=by rw [Int.natAbs_mul,Int.natAbs_natCast]
 rw [wrap_abs (by omega:(p.num * (q.den:Int)).natAbs < _),wrap_abs (by omega:(q.num * (p.den:Int)).natAbs < _)]
 congr 1
 rw [Bool.eq_iff_iff,decide_eq_true_iff,decide_eq_true_iff]
 exact less_iff p q
end Go.Proofs.Ytjohcjfmlhihbaa.P

/- Several texts, joined. -/
import Derived.WalkKit
import Derived.KernelRfl
import Derived.Test.YtjohcjfmlhihbaaProg
import Derived.Test.YtjohcjfmlhihbaaQWhole1
set_option linter.unusedVariables false
set_option linter.unusedSimpArgs false
set_option linter.unusedSectionVars false
namespace Go.Proofs.Ytjohcjfmlhihbaa.P
open Go Go.RowKit Go.Proofs.Ytjohcjfmlhihbaa.G
open Go.Proofs.YtjohcjfmlhihbaaW.PrintWords Go.Proofs.YtjohcjfmlhihbaaW.PrintMore
def heldI (p:List Int) (u:List S45) (x:List Rat) (i:Nat):Int:=firstI (fun q=>holdsB (netOf p u) (rt x) q i) p.length 0
theorem tab_I {m:Nat} {f:Nat → Int} {i:Nat} (h:i < m):rd (tab m f) (i:Int) = f i:=by
 rw [rd_get (by rw [tab_length];exact h),tab_get]
theorem tab_succ {α:Type} (m:Nat) (f:Nat → α):tab m f ++ [f m] = tab (m + 1) f:=by
 unfold tab
 rw [List.range_succ,List.map_append];rfl
section
variable {p:List Int} {u:List S45} (hN:IsN p u) {x:List Rat} (hx:OkR p u x)
include hN hx
theorem Fair_l0:∀ d i,i + d = u.length → Ev (fun k=>shares_Fair.l0 k (encL x) (tab i (heldI p u x)) (u.length:Int) (i:Int) p u) (encL x,tab u.length (heldI p u x),0):=by
 intro d
 have h6:=hN.u6
 induction d with
 | zero =>
  intro i hi
  obtain rfl:i = u.length:=by omega
  refine Ev.step (f:=fun _=>some (encL x,tab u.length (heldI p u x),0)) (fun k=>?_) (Ev.now _)
  rw [shares_Fair.l0,if_neg (by omega)]
 | succ d ih =>
  intro i hi
  have hil:i < u.length:=by omega
  have hn:=ih (i + 1) (by omega)
  rw [← tab_succ] at hn
  refine Ev.step (fun k=>by rw [shares_Fair.l0,if_pos (by omega),wrap_succ (by omega)]) (Ev.bind (ev_held hN hx hil) ?_)
  exact Ev.congr (fun k=>if_pos (by rw [tab_length];omega)) hn
end
end Go.Proofs.Ytjohcjfmlhihbaa.P
namespace Go.Proofs.Ytjohcjfmlhihbaa.G
open Go
theorem nil28_none (n c:Nat) (w:World):(binOp .eql 28 (.slice none n c) (.slice none 0 0)).run Try.prog w = Result.ok (.bool true) w:=by kernel_rfl
theorem nil28_some (a:Addr) (n c:Nat) (w:World):(binOp .eql 28 (.slice (some a) n c) (.slice none 0 0)).run Try.prog w = Result.ok (.bool false) w:=by kernel_rfl
end Go.Proofs.Ytjohcjfmlhihbaa.G
namespace Go.Proofs.Ytjohcjfmlhihbaa.G
open Go.RowKit Go.Proofs.YtjohcjfmlhihbaaW.PrintWords Go.Proofs.YtjohcjfmlhihbaaW.PrintLast Go.Proofs.YtjohcjfmlhihbaaW.PrintMore
set_option maxHeartbeats 8000000
set_option maxRecDepth 100000
attribute [local go_sem] cond_true cond_false fld23_0 fld23_1 fld45_0 fld45_1 fld109_0 fld109_1 fld94_0 fld94_1 max2_int min2_int max_two min_two max_three min_three max_four min_four   -- for this text's walks alone
attribute [local go_sem high] nil28_none nil28_some
def slices_Clone_int_int.f (l0:List Int):Option (List Int):=(some (([]:List Int):List Int)).bind fun b0=>(if b0.length + l0.length < 17592186044416 then (some (b0 ++ l0)) else (none))
theorem slices_Clone_int_int.callsS (a0:Addr) (c0:Nat) (l0:List Int) (r:List Int) (w:World) (b7:Kd.C (Kd.int .i64) w (some a0) l0.length l0) (d2:l0.length ≤ c0) (h:slices_Clone_int_int.f l0 = some r) :
  Calls Try.prog 79 #[.slice (some a0) l0.length c0] w fun e w'=>∃ b3:Value,e = .returned (b3) ∧ Kd.R (Kd.int .i64) 3 w' w.heap.size (fun _=>True) b3 r ∧ Below w.heap.size w w':=by
 have d6:=Aside0.mk b7
 have d8:=Aside0.mk d2
 clear b7 d2
 have HB:=Aside0.mk (Below.refl w.heap.size w)
 have H:((some (([]:List Int):List Int)).bind fun b0=>(if b0.length + l0.length < 17592186044416 then (some (b0 ++ l0)) else (none))) = some r:=h
 clear h
 obtain ⟨b0,b1⟩:∃ y_:List Int,y_ = (([]:List Int)):=⟨_,rfl⟩
 replace H:(if b0.length + l0.length < 17592186044416 then (some (b0 ++ l0)) else (none)) = some r:=by first | (rw [b1];with_reducible exact H) | (have b6:=(Option.bind_some _ _).symm.trans H;rw [b1];with_reducible exact b6) | (have b6:=(Option.bind_some _ _).symm.trans H;with_reducible exact b6) | with_reducible exact H | (rw [b1];exact H) | exact H
 have b4:=Aside0.mk b1
 clear b1
 by_cases c2:b0.length + l0.length < 17592186044416
 case neg =>
  rw [if_neg c2] at H
  exact absurd H (by simp)
 rw [if_pos c2] at H
 have d3:=Aside0.mk c2
 clear c2
 obtain ⟨d4,b2⟩:∃ y_:List Int,y_ = (b0 ++ l0):=⟨_,rfl⟩
 replace H:(some d4) = some r:=by first | (rw [b2];with_reducible exact H) | (have b6:=(Option.bind_some _ _).symm.trans H;rw [b2];with_reducible exact b6) | (have b6:=(Option.bind_some _ _).symm.trans H;with_reducible exact b6) | with_reducible exact H | (rw [b2];exact H) | exact H
 have b8:=Aside0.mk b2
 clear b2
 obtain rfl:=Option.some.inj H
 go_enter Try.func79,Try.ntmps79
 go_wp2_with (first | ((with_reducible refine gate_dst (N:=5) rfl ?_);refine Kd.R_lit (Kd.int .i64) _ 3 ?hg (N:=5) ?hd (xs:=([]:List Int)) (inner:=[]) (ok:=fun _=>True) (okp:=fun _=>True) ?hr ?hp (fun _ hk=>hk) trivial (Below.refl _ _) (Nat.le_refl _) (by simp) ?_;(case hd=>rfl);(case hg=>rfl);(case hr=>first | (go_simp;done) | (go_simp;rfl));(case hp=>exact (Reps.none _ _));intro d5 w3 b9 hb hg_ hnew_;clear hg_ hnew_;(first | rw [← b4.out] at b9 | (simp only [Int.reduceToNat] at b9;rw [← b4.out] at b9));have c1:=Aside0.mk (Kd.R_lower b9 (below_size (by repeat (first | (with_reducible first | exact HB.out | apply below_alloc | apply pw_below_drewN | apply below_drew1) | exact HB.out))));have d0:=Aside0.mk (below_step (by repeat (first | (with_reducible first | exact HB.out | apply below_alloc | apply pw_below_drewN | apply below_drew1) | exact HB.out)) hb);clear HB;have b5:=c1;have HB:=d0;clear c1 d0;clear hb b9) | ((with_reducible refine gate_builtin (b:=.append) (xs:=#[.tmp 5,.tmp 6]) rfl ?_);at_builtin;refine Kd.R_append_rows (Kd.int .i64) (w0:=w) w.heap.size rfl (.tmp 5) (.tmp 6) 28 3 (.int .i64 0) 8 rfl Try.underlying28 info3 rfl (by decide) (by omega) d5 b0 l0 _ _ _ (fun _=>True) (fun _=>False) rfl rfl ?aO ?aR (fun _ _ h=>h) (fun _ h=>h.elim) ?aF ?aB ?aS ?aL ?_;(case aR=>repeat (first | exact (Kd.C_below d6.out HB.out) | (with_reducible refine Kd.C_alloc ?_ _) | (with_reducible refine Kd.C_drewN ?_ _) | (with_reducible refine Kd.C_drew ?_)));(case aB=>exact (by repeat (first | (with_reducible first | exact HB.out | apply below_alloc | apply pw_below_drewN | apply below_drew1) | exact HB.out)));(case aF=>exact (fun _ _=>trivial));(case aO=>exact (by (with_reducible repeat (first | apply Kd.R_alloc | apply Kd.R_drewN | apply Kd.R_drew));exact b5.out));(case aS=>exact (below_size (by repeat (first | (with_reducible first | exact HB.out | apply below_alloc | apply pw_below_drewN | apply below_drew1) | exact HB.out))));(case aL=>have:=d3.out;omega);intro d7 w5 ho hb hg hat;rw [← b8.out] at ho;have c1:=Aside0.mk (hb);have d0:=Aside0.mk (ho);clear HB;clear b5;have HB:=c1;have d1:=d0;clear c1 d0;clear ho hb hg hat))
 go_ret
 exact ⟨_,by first | rfl | (simp [errW_none,errW_some] <;> rfl) | (simp [*,errW_none,errW_some] <;> rfl),by (with_reducible repeat (first | apply Kd.R_alloc | apply Kd.R_drewN | apply Kd.R_drew));exact d1.out,by repeat (first | (with_reducible first | exact HB.out | apply below_alloc | apply pw_below_drewN | apply below_drew1) | exact HB.out)⟩
theorem slices_Clone_int_int.callsN (c0:Nat) (w:World) :
  Calls Try.prog 79 #[.slice none 0 c0] w fun e w'=>∃ b3:Value,e = .returned (b3) ∧ Kd.R (Kd.int .i64) 3 w' w.heap.size (fun _=>True) b3 ([]:List Int) ∧ Below w.heap.size w w':=by
 have HB:=Aside0.mk (Below.refl w.heap.size w)
 go_enter Try.func79,Try.ntmps79
 go_wp2
 go_ret
 exact ⟨_,rfl,Kd.R_nil _ _ _ _ _,HB.out⟩
theorem slices_Clone_int_int.calls (A0:Option Addr) (c0:Nat) (l0:List Int) (r:List Int) (w:World) (b7:Kd.C (Kd.int .i64) w A0 l0.length l0) (d2:l0.length ≤ c0) (h:slices_Clone_int_int.f l0 = some r) :
  Calls Try.prog 79 #[.slice A0 l0.length c0] w fun e w'=>∃ b3:Value,e = .returned (b3) ∧ Kd.R (Kd.int .i64) 3 w' w.heap.size (fun _=>True) b3 r ∧ Below w.heap.size w w':=by
 cases A0 with
 | some a0=>exact slices_Clone_int_int.callsS a0 c0 l0 r w b7 d2 h
 | none =>
  cases l0 with
  | nil =>
   unfold slices_Clone_int_int.f at h
   rw [Option.bind_some,if_pos (by decide)] at h
   obtain rfl:=Option.some.inj h
   exact slices_Clone_int_int.callsN c0 w
  | cons x l =>
   obtain ⟨ad,e,_⟩:=Kd.at_int b7 0 (Int.le_refl 0) (by simp)
   cases e
end Go.Proofs.Ytjohcjfmlhihbaa.G
namespace Go.Proofs.Ytjohcjfmlhihbaa.G
open Go Go.RowKit Go.Shelf Go.Proofs.Ytjohcjfmlhihbaa.H Go.Proofs.YtjohcjfmlhihbaaW.PrintWords
attribute [local go_sem] Oper.semAt_some wide_fn
def zeroO:List Int → List Int → Option Bool
 | [],_=>some false
 | p :: l,m=>if 0 ≤ p ∧ p < (m.length:Int) then (if rd m p = 0 then some true else zeroO l m) else none
set_option maxHeartbeats 2000000 in
theorem c81_any (p:Int) (A1:Option Addr) (c1:Nat) (m:List Int) (w:World) (gb:Nat) (BK0:w.heap[gb]? = some (.cells #[.slice A1 m.length c1] 28 (0,0))) (hr1:Kd.C (Kd.int .i64) w A1 m.length m) (h0:0 ≤ p) (h1:p < (m.length:Int)) :
  Calls Try.prog 81 #[.int .i64 p,.pointer (some ⟨gb,0,none⟩)] w fun e w'=>e = .returned (.bool (decide (rd m p = 0))) ∧ Below w.heap.size w w':=by
 refine (callsIn_wide (n:=9)).1 ?_
 refine callsIn_of_wp Try.func81 rfl trivial ?_
 simp only [Try.ntmps81,List.size_toArray,List.length_cons,List.length_nil,Nat.reduceAdd,Nat.reduceSub,Array.replicate_succ,Array.replicate_zero,List.push_toArray,List.append_toArray,List.nil_append,List.cons_append]
 have k0:=(blk_cell BK0 0).trans rfl
 obtain ⟨ad,e0,hx⟩:=Kd.at_int hr1 p h0 h1
 cases e0
 gi_wp2_with fail
 exact bodyPost_ret (v:=.bool (decide (rd m p = 0))) (results_tmp (t:=3) rfl _ _ _) rfl ⟨rfl,Below.refl _ _⟩
set_option maxHeartbeats 4000000 in
set_option maxRecDepth 100000 in
theorem index81 (A:Option Addr) (c:Nat) (l:List Int) (A1:Option Addr) (c1:Nat) (m:List Int) (w:World) (gb:Nat) (BK0:w.heap[gb]? = some (.cells #[.slice A1 m.length c1] 28 (0,0))) (hr1:Kd.C (Kd.int .i64) w A1 m.length m) (hl:Kd.C (Kd.int .i64) w A l.length l) (r:Bool) (hr:zeroO l m = some r) (hlen:fitL l) :
  Calls Try.prog 109 #[.slice A l.length c,.func (.func 81) #[] #[.pointer (some ⟨gb,0,none⟩)]] w fun e w'=>∃ i:Int,e = .returned (.int .i64 i) ∧ decide (0 ≤ i) = r ∧ Below w.heap.size w w':=by
 refine (callsIn_wide (n:=9)).1 ?_
 refine callsIn_of_wp Try.func109 rfl trivial ?_
 simp only [Try.ntmps109,List.size_toArray,List.length_cons,List.length_nil,Nat.reduceAdd,Nat.reduceSub,Array.replicate_succ,Array.replicate_zero,List.push_toArray,List.append_toArray,List.nil_append,List.cons_append]
 unfold fitL at hlen
 have HL:=Lib.hid hl
 have HM:=Lib.hid hr1
 have HK:=Lib.hid BK0
 have HR:=Lib.hid hr
 clear hl hr1 BK0 hr
 gi_wp2_with fail
 gi_loopg [8] l.length (fun k s8 W=>∃ i:Nat,s8 = .int .i64 (i:Int) ∧ i ≤ l.length ∧ l.length ≤ k + i ∧ Below w.heap.size w W ∧ zeroO (l.drop i) m = some r)
 case atStart=>exact ⟨0,rfl,by omega,by omega,Below.refl _ _,HR.out⟩
 case round =>
  obtain ⟨i,rfl,hi,hk,hB,hany⟩:=hrel
  have HB:=Lib.hid hB
  have HA:=Lib.hid hany
  clear hB hany
  by_cases hil:i < l.length
  case neg =>
   have:i = l.length:=by omega
   subst this
   gi_wp2_with fail
   refine bodyPost_ret (v:=.int .i64 (-1)) (results_tmp (t:=4) rfl _ _ _) rfl ⟨-1,rfl,?_,HB.out⟩
   have ha:=HA.out
   rw [List.drop_length] at ha
   obtain rfl:=Option.some.inj ha
   simp
  have hI0:(0:Int) ≤ (i:Int):=by omega
  have hI1:(i:Int) < (l.length:Int):=by omega
  obtain ⟨ad,e0,hx⟩:=Kd.at_int HL.out (i:Int) hI0 hI1
  cases e0
  rw [Int.toNat_natCast] at hx
  have hcell:=(HB.out.cell (World.block_lt_of_cell? w _ hx)).trans hx
  obtain ⟨x,hxe⟩:∃ x,rd l (i:Int) = x:=⟨_,rfl⟩
  rw [hxe] at hcell
  have hxi:l[i] = x:=by rw [← hxe];unfold rd;simp [hil]
  have ha:=HA.out
  rw [List.drop_eq_getElem_cons hil,hxi,zeroO] at ha
  by_cases g:0 ≤ x ∧ x < (m.length:Int)
  case neg =>
   rw [if_neg g] at ha
   cases ha
  rw [if_pos g] at ha
  have HG:=Lib.hid ha
  have G0:=Lib.hid g.1
  have G1:=Lib.hid g.2
  clear hx hxe hxi HA ha g
  gi_wp2_with fail
  refine (callsIn_wide.2 (c81_any x A1 c1 m _ gb ((HB.out.block _ (block_lt HK.out)).trans HK.out) (Kd.C_below HM.out HB.out) G0.out G1.out)).mono ?_
  rintro e w1 ⟨rfl,hb1⟩
  have HB1:=Lib.hid hb1
  have hs:=HB.out.size
  obtain ⟨q,hq⟩:∃ q,decide (rd m x = 0) = q:=⟨_,rfl⟩
  rw [hq]
  have HQ:=Lib.hid hq
  clear hb1 hq
  cases q with
  | true =>
   gi_wp2_with fail
   refine bodyPost_ret (v:=.int .i64 (i:Int)) (results_tmp (t:=4) rfl _ _ _) rfl ⟨i,rfl,?_,HB.out.trans (HB1.out.mono hs)⟩
   have hg:=HG.out
   rw [if_pos (of_decide_eq_true HQ.out)] at hg
   obtain rfl:=Option.some.inj hg
   simp
  | false =>
   gi_wp2_with fail
   gi_roundg (l.length - (i + 1))
   case measure=>omega
   case rel =>
    refine ⟨i + 1,by simp,by omega,by omega,HB.out.trans (HB1.out.mono hs),?_⟩
    have hg:=HG.out
    rw [if_neg (of_decide_eq_false HQ.out)] at hg
    exact hg
def contains81.f (l0 l1:List Int):Option Bool:=if fitL l0 then zeroO l0 l1 else none
set_option maxHeartbeats 4000000 in
theorem contains81.calls (A0:Option Addr) (c0:Nat) (l0:List Int) (A1:Option Addr) (c1:Nat) (l1:List Int) (r:Bool) (w:World) (gb:Nat) (BK0:w.heap[gb]? = some (.cells #[.slice A1 l1.length c1] 28 (0,0))) (hr0:Kd.C (Kd.int .i64) w A0 l0.length l0) (_:l0.length ≤ c0) (hr1:Kd.C (Kd.int .i64) w A1 l1.length l1) (_:l1.length ≤ c1) (h:contains81.f l0 l1 = some r) :
  Calls Try.prog 80 #[.slice A0 l0.length c0,.func (.func 81) #[] #[.pointer (some ⟨gb,0,none⟩)]] w fun e w'=>e = .returned (.bool r) ∧ Below w.heap.size w w':=by
 unfold contains81.f at h
 by_cases hf:fitL l0
 case neg =>
  rw [if_neg hf] at h
  cases h
 rw [if_pos hf] at h
 refine (callsIn_wide (n:=9)).1 ?_
 refine callsIn_of_wp Try.func80 rfl trivial ?_
 simp only [Try.ntmps80,List.size_toArray,List.length_cons,List.length_nil,Nat.reduceAdd,Nat.reduceSub,Array.replicate_succ,Array.replicate_zero,List.push_toArray,List.append_toArray,List.nil_append,List.cons_append]
 have HI:=Lib.hid (index81 A0 c0 l0 A1 c1 l1 w gb BK0 hr1 hr0 r h hf)
 clear hr0 hr1 BK0 h
 gi_wp2_with fail
 refine (callsIn_wide.2 HI.out).mono ?_
 rintro e w1 ⟨i,rfl,hd,hb1⟩
 have HD:=Lib.hid hd
 have HB1:=Lib.hid hb1
 clear hd hb1
 gi_wp2_with fail
 refine bodyPost_ret (v:=.bool (decide (0 ≤ i))) (results_tmp (t:=4) rfl _ _ _) rfl ⟨by rw [HD.out],HB1.out⟩
end Go.Proofs.Ytjohcjfmlhihbaa.G
namespace Go.Proofs.Ytjohcjfmlhihbaa.G
open Go.RowKit Go.Proofs.YtjohcjfmlhihbaaW.PrintWords Go.Proofs.YtjohcjfmlhihbaaW.PrintLast Go.Proofs.YtjohcjfmlhihbaaW.PrintMore
set_option maxHeartbeats 8000000
set_option maxRecDepth 100000
attribute [local go_sem] cond_true cond_false fld23_0 fld23_1 fld45_0 fld45_1 fld109_0 fld109_1 fld94_0 fld94_1 max2_int min2_int max_two min_two max_three min_three max_four min_four   -- for this text's walks alone
mutual
def shares_Whole.l0:Nat → List (S45) → List Int → List Int → List (S45) → List Int → Option (List Int × Int)
 | 0,_,_,_,_,_=>none
 | k + 1,x1,x9,h8,h3,h1=>shares_Whole.l1 k x1 x9 (-1) x1 (x1.length:Int) 0 h8 h3 h1
def shares_Whole.l1:Nat → List (S45) → List Int → Int → List (S45) → Int → Int → List Int → List (S45) → List Int → Option (List Int × Int)
 | 0,_,_,_,_,_,_,_,_,_=>none
 | k + 1,x1,x9,z3,J2,L1,A8,h8,h3,h1=>if A8 < L1 then (if 0 ≤ A8 then (if A8 < (J2.length:Int) then ((contains81.f ((rd_T45 J2 A8).f1) h1).bind fun E9=>(if E9 = true then (shares_Whole.l1 k x1 x9 z3 J2 L1 (wrap64 (A8 + 1)) h8 h3 h1) else (if z3 < 0 then (shares_Whole.l1 k x1 x9 A8 J2 L1 (wrap64 (A8 + 1)) h8 h3 h1) else (if A8 < (x9.length:Int) then (if 0 ≤ z3 then (if z3 < (h3.length:Int) then (if z3 < (x9.length:Int) then (if (wrap64 ((wrap64 ((rd x9 A8) + 1)) * ((rd_T45 h3 z3).f0))) < (wrap64 ((wrap64 ((rd x9 z3) + 1)) * ((rd_T45 J2 A8).f0))) then (shares_Whole.l1 k x1 x9 A8 J2 L1 (wrap64 (A8 + 1)) h8 h3 h1) else (shares_Whole.l1 k x1 x9 z3 J2 L1 (wrap64 (A8 + 1)) h8 h3 h1)) else (none)) else (none)) else (none)) else (none))))) else (none)) else (none)) else (if z3 < 0 then (some (x9,0)) else (if 0 ≤ z3 then (if z3 < (x9.length:Int) then (if z3 < (x1.length:Int) then (shares_Whole.l2 k x1 (x9.set (z3:Int).toNat (wrap64 ((rd x9 z3) + 1))) ((rd_T45 x1 z3).f1) (((rd_T45 x1 z3).f1).length:Int) 0 h8 h3 h1) else (none)) else (none)) else (none)))
def shares_Whole.l2:Nat → List (S45) → List Int → List Int → Int → Int → List Int → List (S45) → List Int → Option (List Int × Int)
 | 0,_,_,_,_,_,_,_,_=>none
 | k + 1,x1,x9,K8,Q7,F8,h8,h3,h1=>if F8 < Q7 then (if 0 ≤ F8 then (if F8 < (K8.length:Int) then (if 0 ≤ (rd K8 F8) then (if (rd K8 F8) < (h1.length:Int) then (shares_Whole.l2 k x1 x9 K8 Q7 (wrap64 (F8 + 1)) h8 h3 (h1.set ((rd K8 F8):Int).toNat (wrap64 ((rd h1 (rd K8 F8)) - 1)))) else (none)) else (none)) else (none)) else (none)) else (shares_Whole.l0 k x1 x9 h8 h3 h1)
end
def shares_Whole.f (k:Nat) (l0:List Int) (l1:List (S45)):Option (List Int × Int):=(shares_newNet.f k l0 l1).bind fun A9=>(if A9 = true then ((slices_Clone_int_int.f l0).bind fun h9=>(if 0 ≤ (l1.length:Int) then (if ((l1.length:Int):Int).toNat ≤ 35184372088832 then (shares_Whole.l0 k l1 (List.replicate ((l1.length:Int):Int).toNat 0) l0 l1 h9) else (none)) else (none))) else (some (([]:List Int),2)))
theorem shares_Whole.mono_l:∀ k,(∀ y0 y1 y2 y3 y4,LeO (shares_Whole.l0 k y0 y1 y2 y3 y4) (shares_Whole.l0 (k + 1) y0 y1 y2 y3 y4)) ∧ (∀ y0 y1 y2 y3 y4 y5 y6 y7 y8,LeO (shares_Whole.l1 k y0 y1 y2 y3 y4 y5 y6 y7 y8) (shares_Whole.l1 (k + 1) y0 y1 y2 y3 y4 y5 y6 y7 y8)) ∧ (∀ y0 y1 y2 y3 y4 y5 y6 y7,LeO (shares_Whole.l2 k y0 y1 y2 y3 y4 y5 y6 y7) (shares_Whole.l2 (k + 1) y0 y1 y2 y3 y4 y5 y6 y7))
 | 0=>⟨fun _ _ _ _ _ r h=>by simp [shares_Whole.l0] at h,fun _ _ _ _ _ _ _ _ _ r h=>by simp [shares_Whole.l1] at h,fun _ _ _ _ _ _ _ _ r h=>by simp [shares_Whole.l2] at h⟩
 | k + 1=>by
  obtain ⟨F0,F1,F2⟩:=shares_Whole.mono_l k
  refine ⟨?_,?_,?_⟩
  ·intro y0 y1 y2 y3 y4
   unfold shares_Whole.l0
   repeat' first
   | (with_reducible exact F0 _ _ _ _ _)
   | (with_reducible exact F1 _ _ _ _ _ _ _ _ _)
   | (with_reducible exact F2 _ _ _ _ _ _ _ _)
   | (with_reducible exact shares_newNet.mono _ _ _)
   | (with_reducible exact LeO.refl _)
   | (with_reducible exact LeO.none _)
   | (with_reducible refine LeO.ite ?_ ?_)
   | (with_reducible refine LeO.bind ?_ (fun _=>?_))
   | exact F0 _ _ _ _ _
   | exact F1 _ _ _ _ _ _ _ _ _
   | exact F2 _ _ _ _ _ _ _ _
   | exact shares_newNet.mono _ _ _
   | exact LeO.none _
   | refine LeO.ite ?_ ?_
   | refine LeO.bind ?_ (fun _=>?_)
  ·intro y0 y1 y2 y3 y4 y5 y6 y7 y8
   unfold shares_Whole.l1
   repeat' first
   | (with_reducible exact F0 _ _ _ _ _)
   | (with_reducible exact F1 _ _ _ _ _ _ _ _ _)
   | (with_reducible exact F2 _ _ _ _ _ _ _ _)
   | (with_reducible exact shares_newNet.mono _ _ _)
   | (with_reducible exact LeO.refl _)
   | (with_reducible exact LeO.none _)
   | (with_reducible refine LeO.ite ?_ ?_)
   | (with_reducible refine LeO.bind ?_ (fun _=>?_))
   | exact F0 _ _ _ _ _
   | exact F1 _ _ _ _ _ _ _ _ _
   | exact F2 _ _ _ _ _ _ _ _
   | exact shares_newNet.mono _ _ _
   | exact LeO.none _
   | refine LeO.ite ?_ ?_
   | refine LeO.bind ?_ (fun _=>?_)
  intro y0 y1 y2 y3 y4 y5 y6 y7
  unfold shares_Whole.l2
  repeat' first
  | (with_reducible exact F0 _ _ _ _ _)
  | (with_reducible exact F1 _ _ _ _ _ _ _ _ _)
  | (with_reducible exact F2 _ _ _ _ _ _ _ _)
  | (with_reducible exact shares_newNet.mono _ _ _)
  | (with_reducible exact LeO.refl _)
  | (with_reducible exact LeO.none _)
  | (with_reducible refine LeO.ite ?_ ?_)
  | (with_reducible refine LeO.bind ?_ (fun _=>?_))
  | exact F0 _ _ _ _ _
  | exact F1 _ _ _ _ _ _ _ _ _
  | exact F2 _ _ _ _ _ _ _ _
  | exact shares_newNet.mono _ _ _
  | exact LeO.none _
  | refine LeO.ite ?_ ?_
  | refine LeO.bind ?_ (fun _=>?_)
theorem shares_Whole.mono:∀ a0 a1 k,LeO (shares_Whole.f k a0 a1) (shares_Whole.f (k + 1) a0 a1):=by
 intro a0 a1 k
 obtain ⟨F0,F1,F2⟩:=shares_Whole.mono_l k
 unfold shares_Whole.f
 repeat' first
   | (with_reducible exact F0 _ _ _ _ _)
   | (with_reducible exact F1 _ _ _ _ _ _ _ _ _)
   | (with_reducible exact F2 _ _ _ _ _ _ _ _)
   | (with_reducible exact shares_newNet.mono _ _ _)
   | (with_reducible exact LeO.refl _)
   | (with_reducible exact LeO.none _)
   | (with_reducible refine LeO.ite ?_ ?_)
   | (with_reducible refine LeO.bind ?_ (fun _=>?_))
   | exact F0 _ _ _ _ _
   | exact F1 _ _ _ _ _ _ _ _ _
   | exact F2 _ _ _ _ _ _ _ _
   | exact shares_newNet.mono _ _ _
   | exact LeO.none _
   | refine LeO.ite ?_ ?_
   | refine LeO.bind ?_ (fun _=>?_)
theorem shares_Whole.calls (k:Nat) (A0:Option Addr) (c0:Nat) (l0:List Int) (A1:Option Addr) (c1:Nat) (l1:List (S45)) (r1:List Int) (r2:Int) (w:World) (Q8:Kd.C (Kd.int .i64) w A0 l0.length l0) (Q9:l0.length ≤ c0) (R0:Kd.C k45 w A1 l1.length l1) (R1:l1.length ≤ c1) (h:shares_Whole.f k l0 l1 = some (r1,r2)) :
  Calls Try.prog 44 #[.slice A0 l0.length c0,.slice A1 l1.length c1] w fun e w'=>∃ R2:Value,e = .returned (.tuple #[R2,.int .i64 r2]) ∧ Kd.R (Kd.int .i64) 3 w' w.heap.size (fun _=>True) R2 r1 ∧ Below w.heap.size w w':=by
 have R3:=Try.underlying109
 have T0:=Try.underlying45
 have F3:=A_ Q8
 have F4:=A_ Q9
 clear Q8 Q9
 have p1:=A_ R0
 have K9:=A_ R1
 clear R0 R1
 have HB:=A_ (Below.refl w.heap.size w)
 have H:((shares_newNet.f k l0 l1).bind fun A9=>(if A9 = true then ((slices_Clone_int_int.f l0).bind fun h9=>(if 0 ≤ (l1.length:Int) then (if ((l1.length:Int):Int).toNat ≤ 35184372088832 then (shares_Whole.l0 k l1 (List.replicate ((l1.length:Int):Int).toNat 0) l0 l1 h9) else (none)) else (none))) else (some (([]:List Int),2)))) = some (r1,r2):=h
 clear h
 replace H:=Option.bind_eq_some_iff.mp H
 obtain ⟨A9,R4,H⟩:=H
 replace H:(if A9 = true then ((slices_Clone_int_int.f l0).bind fun h9=>(if 0 ≤ (l1.length:Int) then (if ((l1.length:Int):Int).toNat ≤ 35184372088832 then (shares_Whole.l0 k l1 (List.replicate ((l1.length:Int):Int).toNat 0) l0 l1 h9) else (none)) else (none))) else (some (([]:List Int),2))) = some (r1,r2):=H
 have A3:=A_ R4
 clear R4
 by_cases c4:A9 = true
 case neg =>
  replace c4:=Bool.eq_false_iff.mpr c4
  subst c4
  have H1:(some (([]:List Int),2)) = some (r1,r2):=by rw [if_neg (show ¬ (false = true) by decide)] at H;exact H
  clear H
  have H:=H1
  clear H1
  simp only [Option.some.injEq,Prod.mk.injEq] at H
  obtain ⟨rfl,rfl⟩:=H
  go_enter Try.func44,Try.ntmps44
  go_wp2_with (first | (go_at_call 70;(with_reducible refine (shares_newNet.calls k _ _ l0 _ _ l1 false _ ?side1 ?side2 ?side3 ?side4 A3.out).mono ?_);(case side1=>exact kc_ F3.out);(case side2=>exact F4.out);(case side3=>exact kc_ p1.out);(case side4=>exact K9.out);rintro e R5 ⟨rfl,hb⟩;replace HB:=bB HB hb;(try clear hb)) | ((with_reducible refine gate_dst (N:=6) rfl ?_);refine box_event ?hg (N:=6) ?hd (cs:=#[.slice none 0 0,.slice none 0 0]) (t:=109) ?hr ?_;(case hd=>rfl);(case hg=>rfl);(case hr=>first | (go_simp;done) | (go_simp;rfl));intro n7 hg F9 hbox hb;have j5:=A_ hbox;have x3:=gw hg HB;have C2:=x3;replace HB:=bB HB hb;clear hb hbox hg;have z5:F9.cell? ⟨n7,0,none⟩ = some (.slice none 0 0):=cz j5 0;have z6:F9.cell? ⟨n7,1,none⟩ = some (.slice none 0 0):=cz j5 1;have z7:=blk_frozen j5.out 0;have z8:=blk_frozen j5.out 1))
  repeat (go_quiet (first | (go_at_call 70;(with_reducible refine (shares_newNet.calls k _ _ l0 _ _ l1 false _ ?side1 ?side2 ?side3 ?side4 A3.out).mono ?_);(case side1=>exact kc_ F3.out);(case side2=>exact F4.out);(case side3=>exact kc_ p1.out);(case side4=>exact K9.out);rintro e R5 ⟨rfl,hb⟩;replace HB:=bB HB hb;(try clear hb)) | ((with_reducible refine gate_dst (N:=6) rfl ?_);refine box_event ?hg (N:=6) ?hd (cs:=#[.slice none 0 0,.slice none 0 0]) (t:=109) ?hr ?_;(case hd=>rfl);(case hg=>rfl);(case hr=>first | (go_simp;done) | (go_simp;rfl));intro n7 hg F9 hbox hb;have j5:=A_ hbox;have x3:=gw hg HB;have C2:=x3;replace HB:=bB HB hb;clear hb hbox hg;have z5:F9.cell? ⟨n7,0,none⟩ = some (.slice none 0 0):=cz j5 0;have z6:F9.cell? ⟨n7,1,none⟩ = some (.slice none 0 0):=cz j5 1;have z7:=blk_frozen j5.out 0;have z8:=blk_frozen j5.out 1));try go_wp2_with (first | (go_at_call 70;(with_reducible refine (shares_newNet.calls k _ _ l0 _ _ l1 false _ ?side1 ?side2 ?side3 ?side4 A3.out).mono ?_);(case side1=>exact kc_ F3.out);(case side2=>exact F4.out);(case side3=>exact kc_ p1.out);(case side4=>exact K9.out);rintro e R5 ⟨rfl,hb⟩;replace HB:=bB HB hb;(try clear hb)) | ((with_reducible refine gate_dst (N:=6) rfl ?_);refine box_event ?hg (N:=6) ?hd (cs:=#[.slice none 0 0,.slice none 0 0]) (t:=109) ?hr ?_;(case hd=>rfl);(case hg=>rfl);(case hr=>first | (go_simp;done) | (go_simp;rfl));intro n7 hg F9 hbox hb;have j5:=A_ hbox;have x3:=gw hg HB;have C2:=x3;replace HB:=bB HB hb;clear hb hbox hg;have z5:F9.cell? ⟨n7,0,none⟩ = some (.slice none 0 0):=cz j5 0;have z6:F9.cell? ⟨n7,1,none⟩ = some (.slice none 0 0):=cz j5 1;have z7:=blk_frozen j5.out 0;have z8:=blk_frozen j5.out 1)))
  go_ret2
  exact ⟨_,by first | rfl | (simp [errW_none,errW_some] <;> rfl) | (simp [*,errW_none,errW_some] <;> rfl),by first | exact Kd.R_nil _ _ _ _ _ | exact Kd.N_nil _ _ _ _ _ | exact Kd.V_nil _ _ _ _ _ | exact Kd.Q_nil _ _ _ _ _ | exact Kd.S_nil _ _ _ _ _,by repeat (first | (with_reducible first | exact HB.out | apply below_alloc | apply pw_below_drewN | apply below_drew1 | refine below_set ?_ C2.out) | exact HB.out)⟩
 subst c4
 have H1:((slices_Clone_int_int.f l0).bind fun h9=>(if 0 ≤ (l1.length:Int) then (if ((l1.length:Int):Int).toNat ≤ 35184372088832 then (shares_Whole.l0 k l1 (List.replicate ((l1.length:Int):Int).toNat 0) l0 l1 h9) else (none)) else (none))) = some (r1,r2):=by rw [if_pos rfl] at H;exact H
 clear H
 have H:=H1
 clear H1
 replace H:=Option.bind_eq_some_iff.mp H
 obtain ⟨h9,R6,H⟩:=H
 replace H:(if 0 ≤ (l1.length:Int) then (if ((l1.length:Int):Int).toNat ≤ 35184372088832 then (shares_Whole.l0 k l1 (List.replicate ((l1.length:Int):Int).toNat 0) l0 l1 h9) else (none)) else (none)) = some (r1,r2):=H
 have A5:=A_ R6
 clear R6
 by_cases c6:0 ≤ (l1.length:Int)
 case neg =>
  rw [if_neg c6] at H
  exact absurd H (by simp)
 rw [if_pos c6] at H
 have J3:=eq_true c6
 have J4:decide (0 ≤ (l1.length:Int)) = true:=decide_eq_true c6
 clear c6
 by_cases c7:((l1.length:Int):Int).toNat ≤ 35184372088832
 case neg =>
  rw [if_neg c7] at H
  exact absurd H (by simp)
 rw [if_pos c7] at H
 have J5:=eq_true c7
 have J6:decide (((l1.length:Int):Int).toNat ≤ 35184372088832) = true:=decide_eq_true c7
 clear c7
 obtain ⟨L2,x4⟩:∃ y_:List Int,y_ = (List.replicate ((l1.length:Int):Int).toNat 0):=⟨_,rfl⟩
 replace H:(shares_Whole.l0 k l1 L2 l0 l1 h9) = some (r1,r2):=by first | (rw [x4];with_reducible exact H) | (have C3:=(Option.bind_some _ _).symm.trans H;rw [x4];with_reducible exact C3) | (have C3:=(Option.bind_some _ _).symm.trans H;with_reducible exact C3) | with_reducible exact H | (rw [x4];exact H) | exact H
 have o9:=A_ x4
 clear x4
 have H':=A_ H
 clear H
 go_enter Try.func44,Try.ntmps44
 go_wp2_with (first | (go_at_call 70;(with_reducible refine (shares_newNet.calls k _ _ l0 _ _ l1 true _ ?side1 ?side2 ?side3 ?side4 A3.out).mono ?_);(case side1=>exact kc_ F3.out);(case side2=>exact F4.out);(case side3=>exact kc_ p1.out);(case side4=>exact K9.out);rintro e w8 ⟨rfl,hb⟩;replace HB:=bB HB hb;(try clear hb)) | ((with_reducible refine gate_dst (N:=6) rfl ?_);refine box_event ?hg (N:=6) ?hd (cs:=#[.slice none 0 0,.slice none 0 0]) (t:=109) ?hr ?_;(case hd=>rfl);(case hg=>rfl);(case hr=>first | (go_simp;done) | (go_simp;rfl));intro d9 hg w9 hbox hb;have b2:=A_ hbox;have x5:=gw hg HB;have l7:=x5;replace HB:=bB HB hb;clear hb hbox hg;have m7:w9.cell? ⟨d9,0,none⟩ = some (.slice none 0 0):=cz b2 0;have m8:w9.cell? ⟨d9,1,none⟩ = some (.slice none 0 0):=cz b2 1;have m9:=blk_frozen b2.out 0;have n0:=blk_frozen b2.out 1) | (go_at_call 79;(with_reducible refine (slices_Clone_int_int.calls _ _ l0 h9 _ ?side1 ?side2 A5.out).mono ?_);(case side1=>exact Kd.C_below F3.out (bl HB));(case side2=>exact F4.out);rintro e R7 ⟨L3,rfl,G0,hb⟩;have h2:=A_ (Kd.R_lower G0 (below_size (bl HB)));replace b2:=A_ (blk_below (g:=d9) (o:=.cells #[.slice A0 l0.length c0,.slice A1 l1.length c1] 109 (0,0)) (by (with_reducible repeat (first | refine blk_drewN ?_ _ | refine blk_drew ?_ | refine blk_alloc ?_ _));refine blk_put (cs:=#[.slice A0 l0.length c0,.slice none 0 0]) ?_ 1 _ rfl;(with_reducible repeat (first | refine blk_drewN ?_ _ | refine blk_drew ?_ | refine blk_alloc ?_ _));refine blk_put (cs:=#[.slice none 0 0,.slice none 0 0]) ?_ 0 _ rfl;(with_reducible repeat (first | refine blk_drewN ?_ _ | refine blk_drew ?_ | refine blk_alloc ?_ _));exact b2.out) hb);replace HB:=bB HB hb;(try clear hb);(try clear G0)) | ((with_reducible refine gate_dst (N:=8) rfl ?_);refine box_event ?hg (N:=8) ?hd (cs:=#[.slice none 0 0]) (t:=28) ?hr ?_;(case hd=>rfl);(case hg=>rfl);(case hr=>first | (go_simp;done) | (go_simp;rfl));intro d4 hg L4 hbox hb;have b3:=A_ hbox;have x6:=gw hg HB;have l8:=x6;have d8:=nl hg b2;have e1:=ng hg b2;replace h2:=rB h2 hb;replace b2:=kB b2 hb;replace HB:=bB HB hb;clear hb hbox hg;obtain ⟨n8,n9,C4⟩:=Kd.R_slice h2.out;subst C4;have G1:=e1.out;have G2:=d8.out;have n1:L4.cell? ⟨d4,0,none⟩ = some (.slice none 0 0):=cz b3 0;have n2:=blk_frozen b3.out 0) | ((with_reducible refine gate_dst (N:=27) rfl ?_);refine Kd.R_make (Kd.int .i64) _ 3 rfl (N:=27) rfl 28 _ _ rfl (l1.length:Int) rfl rfl Try.underlying28 (.int .i64 0) 8 info3 rfl (by decide) (by omega) 0 (ok:=fun _=>True) (okp:=fun _=>True) rfl (fun _ hk=>hk) trivial oa_ (Nat.le_trans (Nat.mul_le_mul_right _ (oa_:(l1.length:Int).toNat ≤ 35184372088832)) (by omega)) (Below.refl _ _) (Nat.le_refl _) ?_;intro l9 R8 j9 hb hg_ hnew_;clear hg_ hnew_;(first | rw [← o9.out] at j9 | (simp only [Int.reduceToNat] at j9;rw [← o9.out] at j9));have C5:=A_ (Kd.R_lower (Kd.R_new' j9 (Kd.R_lt (by (with_reducible repeat (first | apply Kd.R_alloc | apply Kd.R_drewN | apply Kd.R_drew));exact (Kd.R_mono (Kd.R_far (p:=⟨d4,0,none⟩) (Kd.R_types h2.out b3.out (by decide)) (fun _ hk=>hk.2) (.slice n8 h9.length n9)) (fun _ h_=>h_.1))))) (below_size (bl HB)));replace h2:=A_ (Kd.R_elder' (by (with_reducible repeat (first | apply Kd.R_alloc | apply Kd.R_drewN | apply Kd.R_drew));exact (Kd.R_mono (Kd.R_far (p:=⟨d4,0,none⟩) (Kd.R_types h2.out b3.out (by decide)) (fun _ hk=>hk.2) (.slice n8 h9.length n9)) (fun _ h_=>h_.1))) (Kd.R_base j9) hb);replace b2:=A_ (blk_below (g:=d9) (o:=.cells #[.slice A0 l0.length c0,.slice A1 l1.length c1] 109 (0,0)) (bf1_ d8 b2) hb);replace b3:=A_ (blk_below (g:=d4) (o:=.cells #[.slice n8 h9.length n9] 28 (0,0)) (by (with_reducible repeat (first | refine blk_drewN ?_ _ | refine blk_drew ?_ | refine blk_alloc ?_ _));refine blk_put (cs:=#[.slice none 0 0]) ?_ 0 _ rfl;(with_reducible repeat (first | refine blk_drewN ?_ _ | refine blk_drew ?_ | refine blk_alloc ?_ _));exact b3.out) hb);replace HB:=bB HB hb;clear hb j9))
 repeat (go_quiet (first | (go_at_call 70;(with_reducible refine (shares_newNet.calls k _ _ l0 _ _ l1 true _ ?side1 ?side2 ?side3 ?side4 A3.out).mono ?_);(case side1=>exact kc_ F3.out);(case side2=>exact F4.out);(case side3=>exact kc_ p1.out);(case side4=>exact K9.out);rintro e w8 ⟨rfl,hb⟩;replace HB:=bB HB hb;(try clear hb)) | ((with_reducible refine gate_dst (N:=6) rfl ?_);refine box_event ?hg (N:=6) ?hd (cs:=#[.slice none 0 0,.slice none 0 0]) (t:=109) ?hr ?_;(case hd=>rfl);(case hg=>rfl);(case hr=>first | (go_simp;done) | (go_simp;rfl));intro d9 hg w9 hbox hb;have b2:=A_ hbox;have x5:=gw hg HB;have l7:=x5;replace HB:=bB HB hb;clear hb hbox hg;have m7:w9.cell? ⟨d9,0,none⟩ = some (.slice none 0 0):=cz b2 0;have m8:w9.cell? ⟨d9,1,none⟩ = some (.slice none 0 0):=cz b2 1;have m9:=blk_frozen b2.out 0;have n0:=blk_frozen b2.out 1) | (go_at_call 79;(with_reducible refine (slices_Clone_int_int.calls _ _ l0 h9 _ ?side1 ?side2 A5.out).mono ?_);(case side1=>exact Kd.C_below F3.out (bl HB));(case side2=>exact F4.out);rintro e R7 ⟨L3,rfl,G0,hb⟩;have h2:=A_ (Kd.R_lower G0 (below_size (bl HB)));replace b2:=A_ (blk_below (g:=d9) (o:=.cells #[.slice A0 l0.length c0,.slice A1 l1.length c1] 109 (0,0)) (by (with_reducible repeat (first | refine blk_drewN ?_ _ | refine blk_drew ?_ | refine blk_alloc ?_ _));refine blk_put (cs:=#[.slice A0 l0.length c0,.slice none 0 0]) ?_ 1 _ rfl;(with_reducible repeat (first | refine blk_drewN ?_ _ | refine blk_drew ?_ | refine blk_alloc ?_ _));refine blk_put (cs:=#[.slice none 0 0,.slice none 0 0]) ?_ 0 _ rfl;(with_reducible repeat (first | refine blk_drewN ?_ _ | refine blk_drew ?_ | refine blk_alloc ?_ _));exact b2.out) hb);replace HB:=bB HB hb;(try clear hb);(try clear G0)) | ((with_reducible refine gate_dst (N:=8) rfl ?_);refine box_event ?hg (N:=8) ?hd (cs:=#[.slice none 0 0]) (t:=28) ?hr ?_;(case hd=>rfl);(case hg=>rfl);(case hr=>first | (go_simp;done) | (go_simp;rfl));intro d4 hg L4 hbox hb;have b3:=A_ hbox;have x6:=gw hg HB;have l8:=x6;have d8:=nl hg b2;have e1:=ng hg b2;replace h2:=rB h2 hb;replace b2:=kB b2 hb;replace HB:=bB HB hb;clear hb hbox hg;obtain ⟨n8,n9,C4⟩:=Kd.R_slice h2.out;subst C4;have G1:=e1.out;have G2:=d8.out;have n1:L4.cell? ⟨d4,0,none⟩ = some (.slice none 0 0):=cz b3 0;have n2:=blk_frozen b3.out 0) | ((with_reducible refine gate_dst (N:=27) rfl ?_);refine Kd.R_make (Kd.int .i64) _ 3 rfl (N:=27) rfl 28 _ _ rfl (l1.length:Int) rfl rfl Try.underlying28 (.int .i64 0) 8 info3 rfl (by decide) (by omega) 0 (ok:=fun _=>True) (okp:=fun _=>True) rfl (fun _ hk=>hk) trivial oa_ (Nat.le_trans (Nat.mul_le_mul_right _ (oa_:(l1.length:Int).toNat ≤ 35184372088832)) (by omega)) (Below.refl _ _) (Nat.le_refl _) ?_;intro l9 R8 j9 hb hg_ hnew_;clear hg_ hnew_;(first | rw [← o9.out] at j9 | (simp only [Int.reduceToNat] at j9;rw [← o9.out] at j9));have C5:=A_ (Kd.R_lower (Kd.R_new' j9 (Kd.R_lt (by (with_reducible repeat (first | apply Kd.R_alloc | apply Kd.R_drewN | apply Kd.R_drew));exact (Kd.R_mono (Kd.R_far (p:=⟨d4,0,none⟩) (Kd.R_types h2.out b3.out (by decide)) (fun _ hk=>hk.2) (.slice n8 h9.length n9)) (fun _ h_=>h_.1))))) (below_size (bl HB)));replace h2:=A_ (Kd.R_elder' (by (with_reducible repeat (first | apply Kd.R_alloc | apply Kd.R_drewN | apply Kd.R_drew));exact (Kd.R_mono (Kd.R_far (p:=⟨d4,0,none⟩) (Kd.R_types h2.out b3.out (by decide)) (fun _ hk=>hk.2) (.slice n8 h9.length n9)) (fun _ h_=>h_.1))) (Kd.R_base j9) hb);replace b2:=A_ (blk_below (g:=d9) (o:=.cells #[.slice A0 l0.length c0,.slice A1 l1.length c1] 109 (0,0)) (bf1_ d8 b2) hb);replace b3:=A_ (blk_below (g:=d4) (o:=.cells #[.slice n8 h9.length n9] 28 (0,0)) (by (with_reducible repeat (first | refine blk_drewN ?_ _ | refine blk_drew ?_ | refine blk_alloc ?_ _));refine blk_put (cs:=#[.slice none 0 0]) ?_ 0 _ rfl;(with_reducible repeat (first | refine blk_drewN ?_ _ | refine blk_drew ?_ | refine blk_alloc ?_ _));exact b3.out) hb);replace HB:=bB HB hb;clear hb j9));try go_wp2_with (first | (go_at_call 70;(with_reducible refine (shares_newNet.calls k _ _ l0 _ _ l1 true _ ?side1 ?side2 ?side3 ?side4 A3.out).mono ?_);(case side1=>exact kc_ F3.out);(case side2=>exact F4.out);(case side3=>exact kc_ p1.out);(case side4=>exact K9.out);rintro e w8 ⟨rfl,hb⟩;replace HB:=bB HB hb;(try clear hb)) | ((with_reducible refine gate_dst (N:=6) rfl ?_);refine box_event ?hg (N:=6) ?hd (cs:=#[.slice none 0 0,.slice none 0 0]) (t:=109) ?hr ?_;(case hd=>rfl);(case hg=>rfl);(case hr=>first | (go_simp;done) | (go_simp;rfl));intro d9 hg w9 hbox hb;have b2:=A_ hbox;have x5:=gw hg HB;have l7:=x5;replace HB:=bB HB hb;clear hb hbox hg;have m7:w9.cell? ⟨d9,0,none⟩ = some (.slice none 0 0):=cz b2 0;have m8:w9.cell? ⟨d9,1,none⟩ = some (.slice none 0 0):=cz b2 1;have m9:=blk_frozen b2.out 0;have n0:=blk_frozen b2.out 1) | (go_at_call 79;(with_reducible refine (slices_Clone_int_int.calls _ _ l0 h9 _ ?side1 ?side2 A5.out).mono ?_);(case side1=>exact Kd.C_below F3.out (bl HB));(case side2=>exact F4.out);rintro e R7 ⟨L3,rfl,G0,hb⟩;have h2:=A_ (Kd.R_lower G0 (below_size (bl HB)));replace b2:=A_ (blk_below (g:=d9) (o:=.cells #[.slice A0 l0.length c0,.slice A1 l1.length c1] 109 (0,0)) (by (with_reducible repeat (first | refine blk_drewN ?_ _ | refine blk_drew ?_ | refine blk_alloc ?_ _));refine blk_put (cs:=#[.slice A0 l0.length c0,.slice none 0 0]) ?_ 1 _ rfl;(with_reducible repeat (first | refine blk_drewN ?_ _ | refine blk_drew ?_ | refine blk_alloc ?_ _));refine blk_put (cs:=#[.slice none 0 0,.slice none 0 0]) ?_ 0 _ rfl;(with_reducible repeat (first | refine blk_drewN ?_ _ | refine blk_drew ?_ | refine blk_alloc ?_ _));exact b2.out) hb);replace HB:=bB HB hb;(try clear hb);(try clear G0)) | ((with_reducible refine gate_dst (N:=8) rfl ?_);refine box_event ?hg (N:=8) ?hd (cs:=#[.slice none 0 0]) (t:=28) ?hr ?_;(case hd=>rfl);(case hg=>rfl);(case hr=>first | (go_simp;done) | (go_simp;rfl));intro d4 hg L4 hbox hb;have b3:=A_ hbox;have x6:=gw hg HB;have l8:=x6;have d8:=nl hg b2;have e1:=ng hg b2;replace h2:=rB h2 hb;replace b2:=kB b2 hb;replace HB:=bB HB hb;clear hb hbox hg;obtain ⟨n8,n9,C4⟩:=Kd.R_slice h2.out;subst C4;have G1:=e1.out;have G2:=d8.out;have n1:L4.cell? ⟨d4,0,none⟩ = some (.slice none 0 0):=cz b3 0;have n2:=blk_frozen b3.out 0) | ((with_reducible refine gate_dst (N:=27) rfl ?_);refine Kd.R_make (Kd.int .i64) _ 3 rfl (N:=27) rfl 28 _ _ rfl (l1.length:Int) rfl rfl Try.underlying28 (.int .i64 0) 8 info3 rfl (by decide) (by omega) 0 (ok:=fun _=>True) (okp:=fun _=>True) rfl (fun _ hk=>hk) trivial oa_ (Nat.le_trans (Nat.mul_le_mul_right _ (oa_:(l1.length:Int).toNat ≤ 35184372088832)) (by omega)) (Below.refl _ _) (Nat.le_refl _) ?_;intro l9 R8 j9 hb hg_ hnew_;clear hg_ hnew_;(first | rw [← o9.out] at j9 | (simp only [Int.reduceToNat] at j9;rw [← o9.out] at j9));have C5:=A_ (Kd.R_lower (Kd.R_new' j9 (Kd.R_lt (by (with_reducible repeat (first | apply Kd.R_alloc | apply Kd.R_drewN | apply Kd.R_drew));exact (Kd.R_mono (Kd.R_far (p:=⟨d4,0,none⟩) (Kd.R_types h2.out b3.out (by decide)) (fun _ hk=>hk.2) (.slice n8 h9.length n9)) (fun _ h_=>h_.1))))) (below_size (bl HB)));replace h2:=A_ (Kd.R_elder' (by (with_reducible repeat (first | apply Kd.R_alloc | apply Kd.R_drewN | apply Kd.R_drew));exact (Kd.R_mono (Kd.R_far (p:=⟨d4,0,none⟩) (Kd.R_types h2.out b3.out (by decide)) (fun _ hk=>hk.2) (.slice n8 h9.length n9)) (fun _ h_=>h_.1))) (Kd.R_base j9) hb);replace b2:=A_ (blk_below (g:=d9) (o:=.cells #[.slice A0 l0.length c0,.slice A1 l1.length c1] 109 (0,0)) (bf1_ d8 b2) hb);replace b3:=A_ (blk_below (g:=d4) (o:=.cells #[.slice n8 h9.length n9] 28 (0,0)) (by (with_reducible repeat (first | refine blk_drewN ?_ _ | refine blk_drew ?_ | refine blk_alloc ?_ _));refine blk_put (cs:=#[.slice none 0 0]) ?_ 0 _ rfl;(with_reducible repeat (first | refine blk_drewN ?_ _ | refine blk_drew ?_ | refine blk_alloc ?_ _));exact b3.out) hb);replace HB:=bB HB hb;clear hb j9)))
 go_loopg [] k (fun kq w'=>∃ (e0:List Int) (b8:List Int) (d5:Value),Aside0 (shares_Whole.l0 kq l1 e0 l0 l1 b8 = some (r1,r2)) ∧ Aside0 (kq ≤ k) ∧ Aside0 (Kd.R (Kd.int .i64) 3 w' w.heap.size (fun k_=>some k_ ≠ (d5:Value).ownBlock) l9 e0) ∧ Aside0 (Kd.R (Kd.int .i64) 3 w' w.heap.size (fun k_=>some k_ ≠ (l9:Value).ownBlock) d5 b8) ∧ Aside0 (w'.heap[d9]? = some (.cells #[(.slice A0 l0.length c0),(.slice A1 l1.length c1)] 109 (0,0))) ∧ Aside0 (w'.heap[d4]? = some (.cells #[d5] 28 (0,0))) ∧ Aside0 (Below w.heap.size w w'))
 case atStart=>exact ⟨(L2),(h9),(.slice n8 h9.length n9),H',⟨Nat.le_refl _⟩,⟨by (with_reducible repeat (first | apply Kd.R_alloc | apply Kd.R_drewN | apply Kd.R_drew));exact Kd.R_mono C5.out (fun _ hk=>hk.2)⟩,⟨by (with_reducible repeat (first | apply Kd.R_alloc | apply Kd.R_drewN | apply Kd.R_drew));exact Kd.R_mono h2.out (fun _ hk=>hk.2)⟩,⟨dr_ b2⟩,⟨dr_ b3⟩,⟨by repeat (first | (with_reducible first | exact HB.out | apply below_alloc | apply pw_below_drewN | apply below_drew1 | refine below_set ?_ l7.out | refine below_set ?_ l8.out) | exact HB.out)⟩⟩
 case round =>
  clear H'
  try clear c1
  try clear p2
  try clear c4
  try clear c6
  try clear J3
  try clear J4
  try clear c7
  try clear J5
  try clear J6
  try clear c14
  try clear m7
  try clear m8
  try clear n1
  try clear m9
  try clear n0
  try clear n2
  obtain ⟨e0,b8,d5,HA,B0,d2,b0,b2,b3,HB⟩:=hrel
  cases gk with
  | zero=>exact absurd HA.out (by simp [shares_Whole.l0])
  | succ k1 =>
   have H:=HA.out
   clear HA
   simp only [shares_Whole.l0] at H
   have H':=A_ H
   clear H
   go_wp2
   repeat (go_quiet (fail);try go_wp2)
   go_loopg [10,30] k1 (fun kq U0 U1 w'=>∃ (b5:Int) (b1:Int),U0 = .int .i64 b5 ∧ U1 = .int .i64 b1 ∧ Aside0 (shares_Whole.l1 kq l1 e0 b5 l1 (l1.length:Int) b1 l0 l1 b8 = some (r1,r2)) ∧ Aside0 (kq ≤ k1) ∧ Aside0 (Kd.R (Kd.int .i64) 3 w' w.heap.size (fun k_=>some k_ ≠ (d5:Value).ownBlock) l9 e0) ∧ Aside0 (Kd.R (Kd.int .i64) 3 w' w.heap.size (fun k_=>some k_ ≠ (l9:Value).ownBlock) d5 b8) ∧ Aside0 (w'.heap[d9]? = some (.cells #[(.slice A0 l0.length c0),(.slice A1 l1.length c1)] 109 (0,0))) ∧ Aside0 (w'.heap[d4]? = some (.cells #[d5] 28 (0,0))) ∧ Aside0 (Below w.heap.size w w'))
   case atStart=>exact ⟨((-1)),(0),rf_,rf_,H',⟨Nat.le_refl _⟩,⟨kr_ d2⟩,⟨kr_ b0⟩,⟨dr_ b2⟩,⟨dr_ b3⟩,⟨by repeat (first | (with_reducible first | exact HB.out | apply below_alloc | apply pw_below_drewN | apply below_drew1 | refine below_set ?_ l7.out | refine below_set ?_ l8.out) | exact HB.out)⟩⟩
   case round =>
    clear H'
    try clear c1
    try clear p2
    try clear c4
    try clear c6
    try clear J3
    try clear J4
    try clear c7
    try clear J5
    try clear J6
    try clear c14
    try clear m7
    try clear m8
    try clear n1
    try clear m9
    try clear n0
    try clear n2
    try clear p2
    obtain ⟨b5,b1,rfl,rfl,HA,C0,d2,b0,b2,b3,HB⟩:=hrel
    cases gk with
    | zero=>exact absurd HA.out (by simp [shares_Whole.l1])
    | succ k2 =>
     have H:=HA.out
     clear HA
     simp only [shares_Whole.l1] at H
     by_cases J7:b1 < (l1.length:Int)
     case neg =>
      rw [if_neg J7] at H
      have G3:decide (b1 < (l1.length:Int)) = false:=decide_eq_false J7
      clear J7
      by_cases J8:b5 < 0
      ·rw [if_pos J8] at H
       have G4:decide (b5 < 0) = true:=decide_eq_true J8
       clear J8
       simp only [Option.some.injEq,Prod.mk.injEq] at H
       obtain ⟨rfl,rfl⟩:=H
       go_wp2
       repeat (go_quiet (fail);try go_wp2)
       go_ret2
       exact ⟨_,by first | rfl | (simp [errW_none,errW_some] <;> rfl) | (simp [*,errW_none,errW_some] <;> rfl),by (with_reducible repeat (first | apply Kd.R_alloc | apply Kd.R_drewN | apply Kd.R_drew));exact Kd.R_mono d2.out (fun _ hk=>trivial),by repeat (first | (with_reducible first | exact HB.out | apply below_alloc | apply pw_below_drewN | apply below_drew1 | refine below_set ?_ l7.out | refine below_set ?_ l8.out) | exact HB.out)⟩
      rw [if_neg J8] at H
      have G4:decide (b5 < 0) = false:=decide_eq_false J8
      clear J8
      by_cases L5:0 ≤ b5
      case neg =>
       rw [if_neg L5] at H
       exact absurd H (by simp)
      rw [if_pos L5] at H
      have L6:decide (0 ≤ b5) = true:=decide_eq_true L5
      clear L5
      by_cases L7:b5 < (e0.length:Int)
      case neg =>
       rw [if_neg L7] at H
       exact absurd H (by simp)
      rw [if_pos L7] at H
      have L8:decide (b5 < (e0.length:Int)) = true:=decide_eq_true L7
      clear L7
      obtain ⟨C6,x7⟩:∃ y_:List Int,y_ = (e0.set (b5:Int).toNat (wrap64 ((rd e0 b5) + 1))):=⟨_,rfl⟩
      replace H:(if b5 < (l1.length:Int) then (shares_Whole.l2 k2 l1 C6 ((rd_T45 l1 b5).f1) (((rd_T45 l1 b5).f1).length:Int) 0 l0 l1 b8) else (none)) = some (r1,r2):=by first | (rw [x7];with_reducible exact H) | (have C3:=(Option.bind_some _ _).symm.trans H;rw [x7];with_reducible exact C3) | (have C3:=(Option.bind_some _ _).symm.trans H;with_reducible exact C3) | with_reducible exact H | (rw [x7];exact H) | exact H
      have C7:=A_ x7
      clear x7
      by_cases L9:b5 < (l1.length:Int)
      case neg =>
       rw [if_neg L9] at H
       exact absurd H (by simp)
      rw [if_pos L9] at H
      have M0:decide (b5 < (l1.length:Int)) = true:=decide_eq_true L9
      clear L9
      have H':=A_ H
      clear H
      obtain ⟨U2,n3,P5⟩:=Kd.R_slice d2.out
      subst P5
      have F5:0 ≤ (b5:Int):=oa_
      have F6:b5 < (e0.length:Int):=oa_
      obtain ⟨R9,P6,z9⟩:=Kd.at_int (Kd.R_reads' d2.out).2.2 b5 F5 F6
      cases P6
      replace F5:=eq_true F5
      replace F6:=eq_true F6
      have M1:0 ≤ (b5:Int):=oa_
      have M2:(b5:Int) < ((e0.length:Int):Int):=oa_
      obtain ⟨l5,U3,M3,M4,P7,U4,M5⟩:=Kd.R_form d2.out (by omega)
      (first | cases M3 | (injection M3 with ea_ en_ ec_;(first | subst ea_ | (injection ea_ with ea_;subst ea_));subst ec_;clear en_))
      have J9:=A_ M4
      have U5:=A_ M5
      clear M4 P7 M5
      (first | simp only [add_plain] at z9 | skip)
      obtain ⟨K0,P8⟩:=Kd.R_celln 0 d2.out (b5:Int) M1 M2
      replace M1:=eq_true M1
      replace M2:=eq_true M2
      have o0:=Kd.R_putg d2.out (b5:Int) (wrap64 ((rd e0 b5) + 1))
      go_wp2_with (first | ((with_reducible refine gate_store (t:=3) (p:=74) rfl ?_);(try (rw [drewN_self wr];generalize hq_:World.drewN wr _ = wr;replace d2:=A_ (Kd.R_at hq_ d2.out);replace b0:=A_ (Kd.R_at hq_ b0.out);replace b2:=A_ (blk_at hq_ b2.out);replace b3:=A_ (blk_at hq_ b3.out);replace HB:=A_ (below_at hq_ HB.out);clear hq_;(try (have o0:=Kd.R_putg d2.out (b5:Int) (wrap64 ((rd e0 b5) + 1))))));refine store_event (t:=3) (p:=74) (v:=?vo_w74) (w1:=(wr.setCell ⟨l5,(b5:Int).toNat,none⟩ (.int .i64 (wrap64 ((rd e0 b5) + 1))))) ?hg ?ho ?hn ?hr ?_;(case ho=>rfl);(case hg=>rfl);(case hn=>rfl);(case hr=>first | (go_simp;done) | (go_simp;rfl));intro C8 hw;have hg:wr.grownBy C8 (some l5):=(by rw [hw];exact o0.2);have hp_:Kd.R (Kd.int .i64) 3 C8 w.heap.size (fun k_=>some k_ ≠ (d5:Value).ownBlock) (.slice (some ⟨l5,0,none⟩) e0.length n3) C6:=(by rw [hw,C7.out];exact o0.1);clear o0;replace b0:=A_ (Kd.R_after (v:=(.slice (some ⟨l5,0,none⟩) e0.length n3)) (v1:=(.slice (some ⟨l5,0,none⟩) e0.length n3)) (ok:=(fun _=>True)) (by (with_reducible repeat (first | apply Kd.R_alloc | apply Kd.R_drewN | apply Kd.R_drew));exact Kd.R_mono b0.out (fun _ hk=>⟨trivial,hk⟩)) hg (.inl rfl));replace b2:=A_ (blk_grown (g:=d9) (o:=.cells #[.slice A0 l0.length c0,.slice A1 l1.length c1] 109 (0,0)) (kb b2) hg (Kd.R_ne d2.out b2.out (by decide)));replace b3:=A_ (blk_grown (g:=d4) (o:=.cells #[d5] 28 (0,0)) (kb b3) hg (Kd.R_ne d2.out b3.out (by decide)));replace d2:=A_ hp_;replace HB:=A_ ((by rw [hw];exact below_set (HB.out) J9.out:Below w.heap.size w C8));clear hg hw hp_;have o1:0 ≤ (b5:Int):=oa_;have o2:b5 < (l1.length:Int):=oa_;obtain ⟨p0,C9,D0,D1,i0,i1,j7,j8⟩:=at_T45 p1.out b5 o1 o2;cases D1;replace i0:=cT HB i0;replace i1:=cT HB i1;have p3:=A_ j8;have A2:=A_ j7;clear j8 j7;replace o1:=eq_true o1;replace o2:=eq_true o2))
      repeat (go_quiet (first | ((with_reducible refine gate_store (t:=3) (p:=74) rfl ?_);(try (rw [drewN_self wr];generalize hq_:World.drewN wr _ = wr;replace d2:=A_ (Kd.R_at hq_ d2.out);replace b0:=A_ (Kd.R_at hq_ b0.out);replace b2:=A_ (blk_at hq_ b2.out);replace b3:=A_ (blk_at hq_ b3.out);replace HB:=A_ (below_at hq_ HB.out);clear hq_;(try (have o0:=Kd.R_putg d2.out (b5:Int) (wrap64 ((rd e0 b5) + 1))))));refine store_event (t:=3) (p:=74) (v:=?vo_w74) (w1:=(wr.setCell ⟨l5,(b5:Int).toNat,none⟩ (.int .i64 (wrap64 ((rd e0 b5) + 1))))) ?hg ?ho ?hn ?hr ?_;(case ho=>rfl);(case hg=>rfl);(case hn=>rfl);(case hr=>first | (go_simp;done) | (go_simp;rfl));intro C8 hw;have hg:wr.grownBy C8 (some l5):=(by rw [hw];exact o0.2);have hp_:Kd.R (Kd.int .i64) 3 C8 w.heap.size (fun k_=>some k_ ≠ (d5:Value).ownBlock) (.slice (some ⟨l5,0,none⟩) e0.length n3) C6:=(by rw [hw,C7.out];exact o0.1);clear o0;replace b0:=A_ (Kd.R_after (v:=(.slice (some ⟨l5,0,none⟩) e0.length n3)) (v1:=(.slice (some ⟨l5,0,none⟩) e0.length n3)) (ok:=(fun _=>True)) (by (with_reducible repeat (first | apply Kd.R_alloc | apply Kd.R_drewN | apply Kd.R_drew));exact Kd.R_mono b0.out (fun _ hk=>⟨trivial,hk⟩)) hg (.inl rfl));replace b2:=A_ (blk_grown (g:=d9) (o:=.cells #[.slice A0 l0.length c0,.slice A1 l1.length c1] 109 (0,0)) (kb b2) hg (Kd.R_ne d2.out b2.out (by decide)));replace b3:=A_ (blk_grown (g:=d4) (o:=.cells #[d5] 28 (0,0)) (kb b3) hg (Kd.R_ne d2.out b3.out (by decide)));replace d2:=A_ hp_;replace HB:=A_ ((by rw [hw];exact below_set (HB.out) J9.out:Below w.heap.size w C8));clear hg hw hp_;have o1:0 ≤ (b5:Int):=oa_;have o2:b5 < (l1.length:Int):=oa_;obtain ⟨p0,C9,D0,D1,i0,i1,j7,j8⟩:=at_T45 p1.out b5 o1 o2;cases D1;replace i0:=cT HB i0;replace i1:=cT HB i1;have p3:=A_ j8;have A2:=A_ j7;clear j8 j7;replace o1:=eq_true o1;replace o2:=eq_true o2));try go_wp2_with (first | ((with_reducible refine gate_store (t:=3) (p:=74) rfl ?_);(try (rw [drewN_self wr];generalize hq_:World.drewN wr _ = wr;replace d2:=A_ (Kd.R_at hq_ d2.out);replace b0:=A_ (Kd.R_at hq_ b0.out);replace b2:=A_ (blk_at hq_ b2.out);replace b3:=A_ (blk_at hq_ b3.out);replace HB:=A_ (below_at hq_ HB.out);clear hq_;(try (have o0:=Kd.R_putg d2.out (b5:Int) (wrap64 ((rd e0 b5) + 1))))));refine store_event (t:=3) (p:=74) (v:=?vo_w74) (w1:=(wr.setCell ⟨l5,(b5:Int).toNat,none⟩ (.int .i64 (wrap64 ((rd e0 b5) + 1))))) ?hg ?ho ?hn ?hr ?_;(case ho=>rfl);(case hg=>rfl);(case hn=>rfl);(case hr=>first | (go_simp;done) | (go_simp;rfl));intro C8 hw;have hg:wr.grownBy C8 (some l5):=(by rw [hw];exact o0.2);have hp_:Kd.R (Kd.int .i64) 3 C8 w.heap.size (fun k_=>some k_ ≠ (d5:Value).ownBlock) (.slice (some ⟨l5,0,none⟩) e0.length n3) C6:=(by rw [hw,C7.out];exact o0.1);clear o0;replace b0:=A_ (Kd.R_after (v:=(.slice (some ⟨l5,0,none⟩) e0.length n3)) (v1:=(.slice (some ⟨l5,0,none⟩) e0.length n3)) (ok:=(fun _=>True)) (by (with_reducible repeat (first | apply Kd.R_alloc | apply Kd.R_drewN | apply Kd.R_drew));exact Kd.R_mono b0.out (fun _ hk=>⟨trivial,hk⟩)) hg (.inl rfl));replace b2:=A_ (blk_grown (g:=d9) (o:=.cells #[.slice A0 l0.length c0,.slice A1 l1.length c1] 109 (0,0)) (kb b2) hg (Kd.R_ne d2.out b2.out (by decide)));replace b3:=A_ (blk_grown (g:=d4) (o:=.cells #[d5] 28 (0,0)) (kb b3) hg (Kd.R_ne d2.out b3.out (by decide)));replace d2:=A_ hp_;replace HB:=A_ ((by rw [hw];exact below_set (HB.out) J9.out:Below w.heap.size w C8));clear hg hw hp_;have o1:0 ≤ (b5:Int):=oa_;have o2:b5 < (l1.length:Int):=oa_;obtain ⟨p0,C9,D0,D1,i0,i1,j7,j8⟩:=at_T45 p1.out b5 o1 o2;cases D1;replace i0:=cT HB i0;replace i1:=cT HB i1;have p3:=A_ j8;have A2:=A_ j7;clear j8 j7;replace o1:=eq_true o1;replace o2:=eq_true o2)))
      go_loopg [81] k2 (fun kq U6 w'=>∃ (p4:List Int) (e2:Int) (d3:List Int) (d5:Value),U6 = .int .i64 e2 ∧ Aside0 (shares_Whole.l2 kq l1 p4 ((rd_T45 l1 b5).f1) (((rd_T45 l1 b5).f1).length:Int) e2 l0 l1 d3 = some (r1,r2)) ∧ Aside0 (kq ≤ k2) ∧ Aside0 (Kd.R (Kd.int .i64) 3 w' w.heap.size (fun k_=>some k_ ≠ (d5:Value).ownBlock) (.slice (some ⟨l5,0,none⟩) e0.length n3) p4) ∧ Aside0 (Kd.R (Kd.int .i64) 3 w' w.heap.size (fun k_=>some k_ ≠ ((.slice (some ⟨l5,0,none⟩) e0.length n3):Value).ownBlock) d5 d3) ∧ Aside0 (w'.heap[d9]? = some (.cells #[(.slice A0 l0.length c0),(.slice (some p0) l1.length c1)] 109 (0,0))) ∧ Aside0 (w'.heap[d4]? = some (.cells #[d5] 28 (0,0))) ∧ Aside0 (Below w.heap.size w w'))
      case atStart=>exact ⟨(C6),(0),(b8),(d5),rf_,H',⟨Nat.le_refl _⟩,⟨kr_ d2⟩,⟨by (with_reducible repeat (first | apply Kd.R_alloc | apply Kd.R_drewN | apply Kd.R_drew));exact Kd.R_mono b0.out (fun _ hk=>hk.2)⟩,⟨dr_ b2⟩,⟨dr_ b3⟩,⟨by repeat (first | (with_reducible first | exact HB.out | apply below_alloc | apply pw_below_drewN | apply below_drew1 | refine below_set ?_ l7.out | refine below_set ?_ l8.out) | exact HB.out)⟩⟩
      case round =>
       clear H'
       try clear c1
       try clear c2
       try clear p2
       try clear c3
       try clear c4
       try clear c5
       try clear c6
       try clear J3
       try clear J4
       try clear p6
       try clear c7
       try clear J5
       try clear J6
       try clear p7
       try clear q7
       try clear hx7
       try clear hf7
       try clear c9
       try clear p9
       try clear q9
       try clear hx9
       try clear c14
       try clear J7
       try clear G3
       try clear M6
       try clear M7
       try clear M8
       try clear M9
       try clear N0
       try clear c24
       try clear c25
       try clear c27
       try clear K1
       try clear G5
       try clear c33
       try clear c34
       try clear c36
       try clear N1
       try clear N2
       try clear N3
       try clear N4
       try clear N5
       try clear N6
       try clear N7
       try clear N8
       try clear K2
       try clear G6
       try clear c46
       try clear c47
       try clear c49
       try clear c57
       try clear c58
       try clear c60
       try clear p64
       try clear J8
       try clear G4
       try clear L5
       try clear L6
       try clear L7
       try clear L8
       try clear M1
       try clear M2
       try clear hx70
       try clear hf70
       try clear L9
       try clear M0
       try clear m7
       try clear m8
       try clear n1
       try clear p5
       try clear p8
       try clear q0
       try clear q1
       try clear q2
       try clear q3
       try clear q4
       try clear q5
       try clear q6
       try clear q8
       try clear r0
       try clear r3
       try clear r4
       try clear r5
       try clear r6
       try clear r7
       try clear r8
       try clear r9
       try clear s0
       try clear s1
       try clear m9
       try clear n0
       try clear n2
       try clear s2
       try clear s3
       try clear s4
       try clear s5
       try clear s6
       try clear s7
       try clear s8
       try clear s9
       try clear t0
       try clear t1
       try clear t2
       try clear t3
       try clear t4
       try clear t5
       try clear t6
       try clear t7
       try clear t8
       try clear t9
       try clear x0
       try clear x2
       try clear K0
       try clear h4
       try clear h5
       try clear m3
       try clear e3
       try clear e4
       try clear m4
       try clear z9
       try clear i0
       try clear i1
       try clear p2
       try clear M1
       try clear m5
       try clear i2
       try clear i3
       try clear i4
       try clear F5
       try clear o1
       try clear M2
       try clear m6
       try clear i5
       try clear i6
       try clear i7
       try clear F6
       try clear o2
       obtain ⟨p4,e2,d3,d5,rfl,HA,O8,d2,b0,b2,b3,HB⟩:=hrel
       have i8:=(Kd.R_reads' d2.out).1
       rw [i8] at d2
       (try simp only [i8])
       (try simp only [i8] at b2)
       (try simp only [i8] at b3)
       (try simp only [i8] at b0)
       cases gk with
       | zero=>exact absurd HA.out (by simp [shares_Whole.l2])
       | succ k3 =>
        have H:=HA.out
        clear HA
        simp only [shares_Whole.l2] at H
        by_cases L0:e2 < (((rd_T45 l1 b5).f1).length:Int)
        case neg =>
         rw [if_neg L0] at H
         have N9:decide (e2 < (((rd_T45 l1 b5).f1).length:Int)) = false:=decide_eq_false L0
         clear L0
         have H':=A_ H
         clear H
         go_wp2
         repeat (go_quiet (fail);try go_wp2)
         (try simp only [← i8])
         go_roundg k3
         case measure=>have:=B0.out;have:=C0.out;have:=O8.out;omega
         case rel=>exact ⟨(p4),(d3),(d5),H',⟨by have:=B0.out;have:=C0.out;have:=O8.out;omega⟩,⟨by (try simp only [i8]);(with_reducible repeat (first | apply Kd.R_alloc | apply Kd.R_drewN | apply Kd.R_drew));exact d2.out⟩,⟨by (try simp only [i8]);(with_reducible repeat (first | apply Kd.R_alloc | apply Kd.R_drewN | apply Kd.R_drew));exact b0.out⟩,⟨by (try simp only [i8]);(with_reducible repeat (first | refine blk_drewN ?_ _ | refine blk_drew ?_ | refine blk_alloc ?_ _));exact b2.out⟩,⟨by (try simp only [i8]);(with_reducible repeat (first | refine blk_drewN ?_ _ | refine blk_drew ?_ | refine blk_alloc ?_ _));exact b3.out⟩,⟨by repeat (first | (with_reducible first | exact HB.out | apply below_alloc | apply pw_below_drewN | apply below_drew1 | refine below_set ?_ l7.out | refine below_set ?_ l8.out) | exact HB.out)⟩⟩
        rw [if_pos L0] at H
        have N9:decide (e2 < (((rd_T45 l1 b5).f1).length:Int)) = true:=decide_eq_true L0
        clear L0
        by_cases O9:0 ≤ e2
        case neg =>
         rw [if_neg O9] at H
         exact absurd H (by simp)
        rw [if_pos O9] at H
        have S0:decide (0 ≤ e2) = true:=decide_eq_true O9
        clear O9
        by_cases P0:e2 < (((rd_T45 l1 b5).f1).length:Int)
        case neg =>
         rw [if_neg P0] at H
         exact absurd H (by simp)
        rw [if_pos P0] at H
        have S1:decide (e2 < (((rd_T45 l1 b5).f1).length:Int)) = true:=decide_eq_true P0
        clear P0
        by_cases P1:0 ≤ (rd ((rd_T45 l1 b5).f1) e2)
        case neg =>
         rw [if_neg P1] at H
         exact absurd H (by simp)
        rw [if_pos P1] at H
        have S2:decide (0 ≤ (rd ((rd_T45 l1 b5).f1) e2)) = true:=decide_eq_true P1
        clear P1
        by_cases P2:(rd ((rd_T45 l1 b5).f1) e2) < (d3.length:Int)
        case neg =>
         rw [if_neg P2] at H
         exact absurd H (by simp)
        rw [if_pos P2] at H
        have S3:decide ((rd ((rd_T45 l1 b5).f1) e2) < (d3.length:Int)) = true:=decide_eq_true P2
        clear P2
        obtain ⟨D2,x8⟩:∃ y_:List Int,y_ = (d3.set ((rd ((rd_T45 l1 b5).f1) e2):Int).toNat (wrap64 ((rd d3 (rd ((rd_T45 l1 b5).f1) e2)) - 1))):=⟨_,rfl⟩
        replace H:(shares_Whole.l2 k3 l1 p4 ((rd_T45 l1 b5).f1) (((rd_T45 l1 b5).f1).length:Int) (wrap64 (e2 + 1)) l0 l1 D2) = some (r1,r2):=by first | (rw [x8];with_reducible exact H) | (have C3:=(Option.bind_some _ _).symm.trans H;rw [x8];with_reducible exact C3) | (have C3:=(Option.bind_some _ _).symm.trans H;with_reducible exact C3) | with_reducible exact H | (rw [x8];exact H) | exact H
        have D3:=A_ x8
        clear x8
        have H':=A_ H
        clear H
        have K3:0 ≤ (e2:Int):=oa_
        have K4:e2 < (((rd_T45 l1 b5).f1).length:Int):=oa_
        obtain ⟨S4,P9,A4⟩:=Kd.at_int p3.out e2 K3 K4
        cases P9
        replace A4:=cT HB A4
        replace K3:=eq_true K3
        replace K4:=eq_true K4
        have S5:=e1.out
        have S6:=d8.out
        have P3:wr.cell? ⟨d4,0,none⟩ = some (d5):=cz b3 0
        have P4:=blk_frozen b3.out 0
        obtain ⟨U7,n6,Q0⟩:=Kd.R_slice b0.out
        subst Q0
        have K5:0 ≤ ((rd ((rd_T45 l1 b5).f1) e2):Int):=oa_
        have K6:(rd ((rd_T45 l1 b5).f1) e2) < (d3.length:Int):=oa_
        obtain ⟨S7,Q1,F7⟩:=Kd.at_int (Kd.R_reads' b0.out).2.2 (rd ((rd_T45 l1 b5).f1) e2) K5 K6
        cases Q1
        replace K5:=eq_true K5
        replace K6:=eq_true K6
        have Q2:0 ≤ ((rd ((rd_T45 l1 b5).f1) e2):Int):=oa_
        have Q3:((rd ((rd_T45 l1 b5).f1) e2):Int) < ((d3.length:Int):Int):=oa_
        obtain ⟨l6,U8,O0,O1,Q4,U9,O2⟩:=Kd.R_form b0.out (by omega)
        (first | cases O0 | (injection O0 with ea_ en_ ec_;(first | subst ea_ | (injection ea_ with ea_;subst ea_));subst ec_;clear en_))
        have K7:=A_ O1
        have V0:=A_ O2
        clear O1 Q4 O2
        (first | simp only [add_plain] at F7 | skip)
        obtain ⟨Q5,Q6⟩:=Kd.R_celln 0 b0.out ((rd ((rd_T45 l1 b5).f1) e2):Int) Q2 Q3
        replace Q2:=eq_true Q2
        replace Q3:=eq_true Q3
        have o3:=Kd.R_putg b0.out ((rd ((rd_T45 l1 b5).f1) e2):Int) (wrap64 ((rd d3 (rd ((rd_T45 l1 b5).f1) e2)) - 1))
        go_wp2_with (first | ((with_reducible refine gate_store (t:=3) (p:=90) rfl ?_);(try (rw [drewN_self wr];generalize hq_:World.drewN wr _ = wr;replace d2:=A_ (Kd.R_at hq_ d2.out);replace b0:=A_ (Kd.R_at hq_ b0.out);replace b2:=A_ (blk_at hq_ b2.out);replace b3:=A_ (blk_at hq_ b3.out);replace HB:=A_ (below_at hq_ HB.out);clear hq_;(try (have o3:=Kd.R_putg b0.out ((rd ((rd_T45 l1 b5).f1) e2):Int) (wrap64 ((rd d3 (rd ((rd_T45 l1 b5).f1) e2)) - 1))))));refine store_event (t:=3) (p:=90) (v:=?vo_w85) (w1:=(wr.setCell ⟨l6,((rd ((rd_T45 l1 b5).f1) e2):Int).toNat,none⟩ (.int .i64 (wrap64 ((rd d3 (rd ((rd_T45 l1 b5).f1) e2)) - 1))))) ?hg ?ho ?hn ?hr ?_;(case ho=>rfl);(case hg=>rfl);(case hn=>rfl);(case hr=>first | (go_simp;done) | (go_simp;rfl));intro D4 hw;have hg:wr.grownBy D4 (some l6):=(by rw [hw];exact o3.2);have hp_:Kd.R (Kd.int .i64) 3 D4 w.heap.size (fun k_=>some k_ ≠ (.slice (some ⟨l5,0,none⟩) p4.length n3:Value).ownBlock) (.slice (some ⟨l6,0,none⟩) d3.length n6) D2:=(by rw [hw,D3.out];exact o3.1);clear o3;replace d2:=A_ (Kd.R_after (v:=(.slice (some ⟨l6,0,none⟩) d3.length n6)) (v1:=(.slice (some ⟨l6,0,none⟩) d3.length n6)) (ok:=(fun _=>True)) (by (with_reducible repeat (first | apply Kd.R_alloc | apply Kd.R_drewN | apply Kd.R_drew));exact Kd.R_mono d2.out (fun _ hk=>⟨trivial,hk⟩)) hg (.inl rfl));replace b2:=A_ (blk_grown (g:=d9) (o:=.cells #[.slice A0 l0.length c0,.slice (some p0) l1.length c1] 109 (0,0)) (kb b2) hg (Kd.R_ne b0.out b2.out (by decide)));replace b3:=A_ (blk_grown (g:=d4) (o:=.cells #[.slice (some ⟨l6,0,none⟩) d3.length n6] 28 (0,0)) (kb b3) hg (Kd.R_ne b0.out b3.out (by decide)));replace b0:=A_ hp_;replace HB:=A_ ((by rw [hw];exact below_set (HB.out) K7.out:Below w.heap.size w D4));clear hg hw hp_))
        repeat (go_quiet (first | ((with_reducible refine gate_store (t:=3) (p:=90) rfl ?_);(try (rw [drewN_self wr];generalize hq_:World.drewN wr _ = wr;replace d2:=A_ (Kd.R_at hq_ d2.out);replace b0:=A_ (Kd.R_at hq_ b0.out);replace b2:=A_ (blk_at hq_ b2.out);replace b3:=A_ (blk_at hq_ b3.out);replace HB:=A_ (below_at hq_ HB.out);clear hq_;(try (have o3:=Kd.R_putg b0.out ((rd ((rd_T45 l1 b5).f1) e2):Int) (wrap64 ((rd d3 (rd ((rd_T45 l1 b5).f1) e2)) - 1))))));refine store_event (t:=3) (p:=90) (v:=?vo_w85) (w1:=(wr.setCell ⟨l6,((rd ((rd_T45 l1 b5).f1) e2):Int).toNat,none⟩ (.int .i64 (wrap64 ((rd d3 (rd ((rd_T45 l1 b5).f1) e2)) - 1))))) ?hg ?ho ?hn ?hr ?_;(case ho=>rfl);(case hg=>rfl);(case hn=>rfl);(case hr=>first | (go_simp;done) | (go_simp;rfl));intro D4 hw;have hg:wr.grownBy D4 (some l6):=(by rw [hw];exact o3.2);have hp_:Kd.R (Kd.int .i64) 3 D4 w.heap.size (fun k_=>some k_ ≠ (.slice (some ⟨l5,0,none⟩) p4.length n3:Value).ownBlock) (.slice (some ⟨l6,0,none⟩) d3.length n6) D2:=(by rw [hw,D3.out];exact o3.1);clear o3;replace d2:=A_ (Kd.R_after (v:=(.slice (some ⟨l6,0,none⟩) d3.length n6)) (v1:=(.slice (some ⟨l6,0,none⟩) d3.length n6)) (ok:=(fun _=>True)) (by (with_reducible repeat (first | apply Kd.R_alloc | apply Kd.R_drewN | apply Kd.R_drew));exact Kd.R_mono d2.out (fun _ hk=>⟨trivial,hk⟩)) hg (.inl rfl));replace b2:=A_ (blk_grown (g:=d9) (o:=.cells #[.slice A0 l0.length c0,.slice (some p0) l1.length c1] 109 (0,0)) (kb b2) hg (Kd.R_ne b0.out b2.out (by decide)));replace b3:=A_ (blk_grown (g:=d4) (o:=.cells #[.slice (some ⟨l6,0,none⟩) d3.length n6] 28 (0,0)) (kb b3) hg (Kd.R_ne b0.out b3.out (by decide)));replace b0:=A_ hp_;replace HB:=A_ ((by rw [hw];exact below_set (HB.out) K7.out:Below w.heap.size w D4));clear hg hw hp_));try go_wp2_with (first | ((with_reducible refine gate_store (t:=3) (p:=90) rfl ?_);(try (rw [drewN_self wr];generalize hq_:World.drewN wr _ = wr;replace d2:=A_ (Kd.R_at hq_ d2.out);replace b0:=A_ (Kd.R_at hq_ b0.out);replace b2:=A_ (blk_at hq_ b2.out);replace b3:=A_ (blk_at hq_ b3.out);replace HB:=A_ (below_at hq_ HB.out);clear hq_;(try (have o3:=Kd.R_putg b0.out ((rd ((rd_T45 l1 b5).f1) e2):Int) (wrap64 ((rd d3 (rd ((rd_T45 l1 b5).f1) e2)) - 1))))));refine store_event (t:=3) (p:=90) (v:=?vo_w85) (w1:=(wr.setCell ⟨l6,((rd ((rd_T45 l1 b5).f1) e2):Int).toNat,none⟩ (.int .i64 (wrap64 ((rd d3 (rd ((rd_T45 l1 b5).f1) e2)) - 1))))) ?hg ?ho ?hn ?hr ?_;(case ho=>rfl);(case hg=>rfl);(case hn=>rfl);(case hr=>first | (go_simp;done) | (go_simp;rfl));intro D4 hw;have hg:wr.grownBy D4 (some l6):=(by rw [hw];exact o3.2);have hp_:Kd.R (Kd.int .i64) 3 D4 w.heap.size (fun k_=>some k_ ≠ (.slice (some ⟨l5,0,none⟩) p4.length n3:Value).ownBlock) (.slice (some ⟨l6,0,none⟩) d3.length n6) D2:=(by rw [hw,D3.out];exact o3.1);clear o3;replace d2:=A_ (Kd.R_after (v:=(.slice (some ⟨l6,0,none⟩) d3.length n6)) (v1:=(.slice (some ⟨l6,0,none⟩) d3.length n6)) (ok:=(fun _=>True)) (by (with_reducible repeat (first | apply Kd.R_alloc | apply Kd.R_drewN | apply Kd.R_drew));exact Kd.R_mono d2.out (fun _ hk=>⟨trivial,hk⟩)) hg (.inl rfl));replace b2:=A_ (blk_grown (g:=d9) (o:=.cells #[.slice A0 l0.length c0,.slice (some p0) l1.length c1] 109 (0,0)) (kb b2) hg (Kd.R_ne b0.out b2.out (by decide)));replace b3:=A_ (blk_grown (g:=d4) (o:=.cells #[.slice (some ⟨l6,0,none⟩) d3.length n6] 28 (0,0)) (kb b3) hg (Kd.R_ne b0.out b3.out (by decide)));replace b0:=A_ hp_;replace HB:=A_ ((by rw [hw];exact below_set (HB.out) K7.out:Below w.heap.size w D4));clear hg hw hp_)))
        (try simp only [← i8])
        go_roundg k3
        case measure=>have:=B0.out;have:=C0.out;have:=O8.out;omega
        case rel=>exact ⟨(p4),(wrap64 (e2 + 1)),(D2),(.slice (some ⟨l6,0,none⟩) d3.length n6),rf_,H',⟨by have:=B0.out;have:=C0.out;have:=O8.out;omega⟩,⟨by (try simp only [i8]);(with_reducible repeat (first | apply Kd.R_alloc | apply Kd.R_drewN | apply Kd.R_drew));exact Kd.R_mono d2.out (fun _ hk=>hk.2)⟩,⟨by (try simp only [i8]);(with_reducible repeat (first | apply Kd.R_alloc | apply Kd.R_drewN | apply Kd.R_drew));exact b0.out⟩,⟨by (try simp only [i8]);(with_reducible repeat (first | refine blk_drewN ?_ _ | refine blk_drew ?_ | refine blk_alloc ?_ _));exact b2.out⟩,⟨by (try simp only [i8]);(with_reducible repeat (first | refine blk_drewN ?_ _ | refine blk_drew ?_ | refine blk_alloc ?_ _));exact b3.out⟩,⟨by repeat (first | (with_reducible first | exact HB.out | apply below_alloc | apply pw_below_drewN | apply below_drew1 | refine below_set ?_ l7.out | refine below_set ?_ l8.out) | exact HB.out)⟩⟩
     rw [if_pos J7] at H
     have G3:decide (b1 < (l1.length:Int)) = true:=decide_eq_true J7
     clear J7
     by_cases M6:0 ≤ b1
     case neg =>
      rw [if_neg M6] at H
      exact absurd H (by simp)
     rw [if_pos M6] at H
     have M7:decide (0 ≤ b1) = true:=decide_eq_true M6
     clear M6
     by_cases M8:b1 < (l1.length:Int)
     case neg =>
      rw [if_neg M8] at H
      exact absurd H (by simp)
     rw [if_pos M8] at H
     have M9:decide (b1 < (l1.length:Int)) = true:=decide_eq_true M8
     clear M8
     replace H:=Option.bind_eq_some_iff.mp H
     obtain ⟨E9,O3,H⟩:=H
     replace H:(if E9 = true then (shares_Whole.l1 k2 l1 e0 b5 l1 (l1.length:Int) (wrap64 (b1 + 1)) l0 l1 b8) else (if b5 < 0 then (shares_Whole.l1 k2 l1 e0 b1 l1 (l1.length:Int) (wrap64 (b1 + 1)) l0 l1 b8) else (if b1 < (e0.length:Int) then (if 0 ≤ b5 then (if b5 < (l1.length:Int) then (if b5 < (e0.length:Int) then (if (wrap64 ((wrap64 ((rd e0 b1) + 1)) * ((rd_T45 l1 b5).f0))) < (wrap64 ((wrap64 ((rd e0 b5) + 1)) * ((rd_T45 l1 b1).f0))) then (shares_Whole.l1 k2 l1 e0 b1 l1 (l1.length:Int) (wrap64 (b1 + 1)) l0 l1 b8) else (shares_Whole.l1 k2 l1 e0 b5 l1 (l1.length:Int) (wrap64 (b1 + 1)) l0 l1 b8)) else (none)) else (none)) else (none)) else (none)))) = some (r1,r2):=H
     have C1:=A_ O3
     clear O3
     by_cases N0:E9 = true
     ·subst N0
      have H1:(shares_Whole.l1 k2 l1 e0 b5 l1 (l1.length:Int) (wrap64 (b1 + 1)) l0 l1 b8) = some (r1,r2):=by rw [if_pos rfl] at H;exact H
      clear H
      have H:=H1
      clear H1
      have H':=A_ H
      clear H
      have m5:0 ≤ (b1:Int):=oa_
      have m6:b1 < (l1.length:Int):=oa_
      obtain ⟨e7,d0,d1,z4,h4,h5,h6,h7⟩:=at_T45 p1.out b1 m5 m6
      cases z4
      replace h4:=cT HB h4
      replace h5:=cT HB h5
      have e8:=A_ h7
      have e9:=A_ h6
      clear h7 h6
      replace m5:=eq_true m5
      replace m6:=eq_true m6
      go_wp2_with (first | ((with_reducible refine gate_dst (N:=12) rfl ?_);refine box_event ?hg (N:=12) ?hd (cs:=#[.int .i64 0,.slice none 0 0]) (t:=45) ?hr ?_;(case hd=>rfl);(case hg=>rfl);(case hr=>first | (go_simp;done) | (go_simp;rfl));intro b7 hg D5 hbox hb;have b6:=A_ hbox;have h0:=gw hg HB;have i9:=h0;have b9:=nl hg b2;have d6:=ng hg b2;have b4:=nl hg b3;have d7:=ng hg b3;replace d2:=rB d2 hb;replace b0:=rB b0 hb;replace b2:=kB b2 hb;replace b3:=kB b3 hb;replace HB:=bB HB hb;clear hb hbox hg;have G7:=d6.out;have G8:=b9.out;have G9:=d7.out;have H0:=b4.out;have p5:D5.cell? ⟨b7,0,none⟩ = some (.int .i64 0):=cz b6 0;have p8:D5.cell? ⟨b7,1,none⟩ = some (.slice none 0 0):=cz b6 1;have s2:=blk_frozen b6.out 0;have s3:=blk_frozen b6.out 1;have H2:=e1.out;have H3:=d8.out;have q0:D5.cell? ⟨d4,0,none⟩ = some (d5):=cz b3 0;have s4:=blk_frozen b3.out 0;obtain ⟨D6,y9,D7⟩:=Kd.R_slice b0.out;subst D7) | (go_at_call 80;(with_reducible refine (contains81.calls _ _ ((rd_T45 l1 b1).f1) _ _ b8 true _ d4 (bf2_ b4 b4 b3) ?side1 ?side2 ?side3 ?side4 C1.out).mono ?_);(case side1=>exact Kd.C_below e8.out (bl HB));(case side2=>exact e9.out);(case side3=>refine (Kd.R_reads' (e:=3) (base:=w.heap.size) (ok:=fun k_=>some k_ ≠ (l9:Value).ownBlock) (n:=b8.length) (c:=y9) ?_).2.2;exact (by (with_reducible repeat (first | apply Kd.R_alloc | apply Kd.R_drewN | apply Kd.R_drew));exact (Kd.R_mono (Kd.R_far (p:=⟨b7,1,none⟩) (Kd.R_far (p:=⟨b7,0,none⟩) (Kd.R_types b0.out b6.out (by decide)) (fun _ hk=>hk.2) (.int .i64 ((rd_T45 l1 b1).f0))) (fun _ hk=>hk.2) (.slice d0 ((rd_T45 l1 b1).f1).length d1)) (fun _ h_=>h_.1))));(case side4=>exact (Kd.R_reads' b0.out).2.1);rintro e S8 ⟨rfl,hb⟩;replace d2:=A_ (Kd.R_below (by (with_reducible repeat (first | apply Kd.R_alloc | apply Kd.R_drewN | apply Kd.R_drew));exact (Kd.R_mono (Kd.R_far (p:=⟨b7,1,none⟩) (Kd.R_far (p:=⟨b7,0,none⟩) (Kd.R_types d2.out b6.out (by decide)) (fun _ hk=>hk.2) (.int .i64 ((rd_T45 l1 b1).f0))) (fun _ hk=>hk.2) (.slice d0 ((rd_T45 l1 b1).f1).length d1)) (fun _ h_=>h_.1))) hb);replace b0:=A_ (Kd.R_below (by (with_reducible repeat (first | apply Kd.R_alloc | apply Kd.R_drewN | apply Kd.R_drew));exact (Kd.R_mono (Kd.R_far (p:=⟨b7,1,none⟩) (Kd.R_far (p:=⟨b7,0,none⟩) (Kd.R_types b0.out b6.out (by decide)) (fun _ hk=>hk.2) (.int .i64 ((rd_T45 l1 b1).f0))) (fun _ hk=>hk.2) (.slice d0 ((rd_T45 l1 b1).f1).length d1)) (fun _ h_=>h_.1))) hb);replace b2:=A_ (blk_below (g:=d9) (o:=.cells #[.slice A0 l0.length c0,.slice (some e7) l1.length c1] 109 (0,0)) (bf2_ b9 b9 b2) hb);replace b3:=A_ (blk_below (g:=d4) (o:=.cells #[.slice D6 b8.length y9] 28 (0,0)) (bf2_ b4 b4 b3) hb);replace b6:=A_ (blk_below (g:=b7) (o:=.cells #[.int .i64 ((rd_T45 l1 b1).f0),.slice d0 ((rd_T45 l1 b1).f1).length d1] 45 (0,0)) (by (with_reducible repeat (first | refine blk_drewN ?_ _ | refine blk_drew ?_ | refine blk_alloc ?_ _));refine blk_put (cs:=#[.int .i64 ((rd_T45 l1 b1).f0),.slice none 0 0]) ?_ 1 _ rfl;(with_reducible repeat (first | refine blk_drewN ?_ _ | refine blk_drew ?_ | refine blk_alloc ?_ _));refine blk_put (cs:=#[.int .i64 0,.slice none 0 0]) ?_ 0 _ rfl;(with_reducible repeat (first | refine blk_drewN ?_ _ | refine blk_drew ?_ | refine blk_alloc ?_ _));exact b6.out) hb);replace HB:=bB HB hb;(try clear hb)))
      repeat (go_quiet (first | ((with_reducible refine gate_dst (N:=12) rfl ?_);refine box_event ?hg (N:=12) ?hd (cs:=#[.int .i64 0,.slice none 0 0]) (t:=45) ?hr ?_;(case hd=>rfl);(case hg=>rfl);(case hr=>first | (go_simp;done) | (go_simp;rfl));intro b7 hg D5 hbox hb;have b6:=A_ hbox;have h0:=gw hg HB;have i9:=h0;have b9:=nl hg b2;have d6:=ng hg b2;have b4:=nl hg b3;have d7:=ng hg b3;replace d2:=rB d2 hb;replace b0:=rB b0 hb;replace b2:=kB b2 hb;replace b3:=kB b3 hb;replace HB:=bB HB hb;clear hb hbox hg;have G7:=d6.out;have G8:=b9.out;have G9:=d7.out;have H0:=b4.out;have p5:D5.cell? ⟨b7,0,none⟩ = some (.int .i64 0):=cz b6 0;have p8:D5.cell? ⟨b7,1,none⟩ = some (.slice none 0 0):=cz b6 1;have s2:=blk_frozen b6.out 0;have s3:=blk_frozen b6.out 1;have H2:=e1.out;have H3:=d8.out;have q0:D5.cell? ⟨d4,0,none⟩ = some (d5):=cz b3 0;have s4:=blk_frozen b3.out 0;obtain ⟨D6,y9,D7⟩:=Kd.R_slice b0.out;subst D7) | (go_at_call 80;(with_reducible refine (contains81.calls _ _ ((rd_T45 l1 b1).f1) _ _ b8 true _ d4 (bf2_ b4 b4 b3) ?side1 ?side2 ?side3 ?side4 C1.out).mono ?_);(case side1=>exact Kd.C_below e8.out (bl HB));(case side2=>exact e9.out);(case side3=>refine (Kd.R_reads' (e:=3) (base:=w.heap.size) (ok:=fun k_=>some k_ ≠ (l9:Value).ownBlock) (n:=b8.length) (c:=y9) ?_).2.2;exact (by (with_reducible repeat (first | apply Kd.R_alloc | apply Kd.R_drewN | apply Kd.R_drew));exact (Kd.R_mono (Kd.R_far (p:=⟨b7,1,none⟩) (Kd.R_far (p:=⟨b7,0,none⟩) (Kd.R_types b0.out b6.out (by decide)) (fun _ hk=>hk.2) (.int .i64 ((rd_T45 l1 b1).f0))) (fun _ hk=>hk.2) (.slice d0 ((rd_T45 l1 b1).f1).length d1)) (fun _ h_=>h_.1))));(case side4=>exact (Kd.R_reads' b0.out).2.1);rintro e S8 ⟨rfl,hb⟩;replace d2:=A_ (Kd.R_below (by (with_reducible repeat (first | apply Kd.R_alloc | apply Kd.R_drewN | apply Kd.R_drew));exact (Kd.R_mono (Kd.R_far (p:=⟨b7,1,none⟩) (Kd.R_far (p:=⟨b7,0,none⟩) (Kd.R_types d2.out b6.out (by decide)) (fun _ hk=>hk.2) (.int .i64 ((rd_T45 l1 b1).f0))) (fun _ hk=>hk.2) (.slice d0 ((rd_T45 l1 b1).f1).length d1)) (fun _ h_=>h_.1))) hb);replace b0:=A_ (Kd.R_below (by (with_reducible repeat (first | apply Kd.R_alloc | apply Kd.R_drewN | apply Kd.R_drew));exact (Kd.R_mono (Kd.R_far (p:=⟨b7,1,none⟩) (Kd.R_far (p:=⟨b7,0,none⟩) (Kd.R_types b0.out b6.out (by decide)) (fun _ hk=>hk.2) (.int .i64 ((rd_T45 l1 b1).f0))) (fun _ hk=>hk.2) (.slice d0 ((rd_T45 l1 b1).f1).length d1)) (fun _ h_=>h_.1))) hb);replace b2:=A_ (blk_below (g:=d9) (o:=.cells #[.slice A0 l0.length c0,.slice (some e7) l1.length c1] 109 (0,0)) (bf2_ b9 b9 b2) hb);replace b3:=A_ (blk_below (g:=d4) (o:=.cells #[.slice D6 b8.length y9] 28 (0,0)) (bf2_ b4 b4 b3) hb);replace b6:=A_ (blk_below (g:=b7) (o:=.cells #[.int .i64 ((rd_T45 l1 b1).f0),.slice d0 ((rd_T45 l1 b1).f1).length d1] 45 (0,0)) (by (with_reducible repeat (first | refine blk_drewN ?_ _ | refine blk_drew ?_ | refine blk_alloc ?_ _));refine blk_put (cs:=#[.int .i64 ((rd_T45 l1 b1).f0),.slice none 0 0]) ?_ 1 _ rfl;(with_reducible repeat (first | refine blk_drewN ?_ _ | refine blk_drew ?_ | refine blk_alloc ?_ _));refine blk_put (cs:=#[.int .i64 0,.slice none 0 0]) ?_ 0 _ rfl;(with_reducible repeat (first | refine blk_drewN ?_ _ | refine blk_drew ?_ | refine blk_alloc ?_ _));exact b6.out) hb);replace HB:=bB HB hb;(try clear hb)));try go_wp2_with (first | ((with_reducible refine gate_dst (N:=12) rfl ?_);refine box_event ?hg (N:=12) ?hd (cs:=#[.int .i64 0,.slice none 0 0]) (t:=45) ?hr ?_;(case hd=>rfl);(case hg=>rfl);(case hr=>first | (go_simp;done) | (go_simp;rfl));intro b7 hg D5 hbox hb;have b6:=A_ hbox;have h0:=gw hg HB;have i9:=h0;have b9:=nl hg b2;have d6:=ng hg b2;have b4:=nl hg b3;have d7:=ng hg b3;replace d2:=rB d2 hb;replace b0:=rB b0 hb;replace b2:=kB b2 hb;replace b3:=kB b3 hb;replace HB:=bB HB hb;clear hb hbox hg;have G7:=d6.out;have G8:=b9.out;have G9:=d7.out;have H0:=b4.out;have p5:D5.cell? ⟨b7,0,none⟩ = some (.int .i64 0):=cz b6 0;have p8:D5.cell? ⟨b7,1,none⟩ = some (.slice none 0 0):=cz b6 1;have s2:=blk_frozen b6.out 0;have s3:=blk_frozen b6.out 1;have H2:=e1.out;have H3:=d8.out;have q0:D5.cell? ⟨d4,0,none⟩ = some (d5):=cz b3 0;have s4:=blk_frozen b3.out 0;obtain ⟨D6,y9,D7⟩:=Kd.R_slice b0.out;subst D7) | (go_at_call 80;(with_reducible refine (contains81.calls _ _ ((rd_T45 l1 b1).f1) _ _ b8 true _ d4 (bf2_ b4 b4 b3) ?side1 ?side2 ?side3 ?side4 C1.out).mono ?_);(case side1=>exact Kd.C_below e8.out (bl HB));(case side2=>exact e9.out);(case side3=>refine (Kd.R_reads' (e:=3) (base:=w.heap.size) (ok:=fun k_=>some k_ ≠ (l9:Value).ownBlock) (n:=b8.length) (c:=y9) ?_).2.2;exact (by (with_reducible repeat (first | apply Kd.R_alloc | apply Kd.R_drewN | apply Kd.R_drew));exact (Kd.R_mono (Kd.R_far (p:=⟨b7,1,none⟩) (Kd.R_far (p:=⟨b7,0,none⟩) (Kd.R_types b0.out b6.out (by decide)) (fun _ hk=>hk.2) (.int .i64 ((rd_T45 l1 b1).f0))) (fun _ hk=>hk.2) (.slice d0 ((rd_T45 l1 b1).f1).length d1)) (fun _ h_=>h_.1))));(case side4=>exact (Kd.R_reads' b0.out).2.1);rintro e S8 ⟨rfl,hb⟩;replace d2:=A_ (Kd.R_below (by (with_reducible repeat (first | apply Kd.R_alloc | apply Kd.R_drewN | apply Kd.R_drew));exact (Kd.R_mono (Kd.R_far (p:=⟨b7,1,none⟩) (Kd.R_far (p:=⟨b7,0,none⟩) (Kd.R_types d2.out b6.out (by decide)) (fun _ hk=>hk.2) (.int .i64 ((rd_T45 l1 b1).f0))) (fun _ hk=>hk.2) (.slice d0 ((rd_T45 l1 b1).f1).length d1)) (fun _ h_=>h_.1))) hb);replace b0:=A_ (Kd.R_below (by (with_reducible repeat (first | apply Kd.R_alloc | apply Kd.R_drewN | apply Kd.R_drew));exact (Kd.R_mono (Kd.R_far (p:=⟨b7,1,none⟩) (Kd.R_far (p:=⟨b7,0,none⟩) (Kd.R_types b0.out b6.out (by decide)) (fun _ hk=>hk.2) (.int .i64 ((rd_T45 l1 b1).f0))) (fun _ hk=>hk.2) (.slice d0 ((rd_T45 l1 b1).f1).length d1)) (fun _ h_=>h_.1))) hb);replace b2:=A_ (blk_below (g:=d9) (o:=.cells #[.slice A0 l0.length c0,.slice (some e7) l1.length c1] 109 (0,0)) (bf2_ b9 b9 b2) hb);replace b3:=A_ (blk_below (g:=d4) (o:=.cells #[.slice D6 b8.length y9] 28 (0,0)) (bf2_ b4 b4 b3) hb);replace b6:=A_ (blk_below (g:=b7) (o:=.cells #[.int .i64 ((rd_T45 l1 b1).f0),.slice d0 ((rd_T45 l1 b1).f1).length d1] 45 (0,0)) (by (with_reducible repeat (first | refine blk_drewN ?_ _ | refine blk_drew ?_ | refine blk_alloc ?_ _));refine blk_put (cs:=#[.int .i64 ((rd_T45 l1 b1).f0),.slice none 0 0]) ?_ 1 _ rfl;(with_reducible repeat (first | refine blk_drewN ?_ _ | refine blk_drew ?_ | refine blk_alloc ?_ _));refine blk_put (cs:=#[.int .i64 0,.slice none 0 0]) ?_ 0 _ rfl;(with_reducible repeat (first | refine blk_drewN ?_ _ | refine blk_drew ?_ | refine blk_alloc ?_ _));exact b6.out) hb);replace HB:=bB HB hb;(try clear hb))))
      go_roundg k2
      case measure=>have:=B0.out;have:=C0.out;omega
      case rel=>exact ⟨(b5),(wrap64 (b1 + 1)),rf_,rf_,H',⟨by have:=B0.out;have:=C0.out;omega⟩,⟨kr_ d2⟩,⟨kr_ b0⟩,⟨dr_ b2⟩,⟨dr_ b3⟩,⟨by repeat (first | (with_reducible first | exact HB.out | apply below_alloc | apply pw_below_drewN | apply below_drew1 | refine below_set ?_ l7.out | refine below_set ?_ l8.out | refine below_set ?_ i9.out) | exact HB.out)⟩⟩
     replace N0:=Bool.eq_false_iff.mpr N0
     subst N0
     have H1:(if b5 < 0 then (shares_Whole.l1 k2 l1 e0 b1 l1 (l1.length:Int) (wrap64 (b1 + 1)) l0 l1 b8) else (if b1 < (e0.length:Int) then (if 0 ≤ b5 then (if b5 < (l1.length:Int) then (if b5 < (e0.length:Int) then (if (wrap64 ((wrap64 ((rd e0 b1) + 1)) * ((rd_T45 l1 b5).f0))) < (wrap64 ((wrap64 ((rd e0 b5) + 1)) * ((rd_T45 l1 b1).f0))) then (shares_Whole.l1 k2 l1 e0 b1 l1 (l1.length:Int) (wrap64 (b1 + 1)) l0 l1 b8) else (shares_Whole.l1 k2 l1 e0 b5 l1 (l1.length:Int) (wrap64 (b1 + 1)) l0 l1 b8)) else (none)) else (none)) else (none)) else (none))) = some (r1,r2):=by rw [if_neg (show ¬ (false = true) by decide)] at H;exact H
     clear H
     have H:=H1
     clear H1
     by_cases K1:b5 < 0
     ·rw [if_pos K1] at H
      have G5:decide (b5 < 0) = true:=decide_eq_true K1
      clear K1
      have H':=A_ H
      clear H
      have m5:0 ≤ (b1:Int):=oa_
      have m6:b1 < (l1.length:Int):=oa_
      obtain ⟨e7,d0,d1,z4,h4,h5,h6,h7⟩:=at_T45 p1.out b1 m5 m6
      cases z4
      replace h4:=cT HB h4
      replace h5:=cT HB h5
      have e8:=A_ h7
      have e9:=A_ h6
      clear h7 h6
      replace m5:=eq_true m5
      replace m6:=eq_true m6
      go_wp2_with (first | ((with_reducible refine gate_dst (N:=12) rfl ?_);refine box_event ?hg (N:=12) ?hd (cs:=#[.int .i64 0,.slice none 0 0]) (t:=45) ?hr ?_;(case hd=>rfl);(case hg=>rfl);(case hr=>first | (go_simp;done) | (go_simp;rfl));intro b7 hg D8 hbox hb;have b6:=A_ hbox;have h0:=gw hg HB;have i9:=h0;have b9:=nl hg b2;have d6:=ng hg b2;have b4:=nl hg b3;have d7:=ng hg b3;replace d2:=rB d2 hb;replace b0:=rB b0 hb;replace b2:=kB b2 hb;replace b3:=kB b3 hb;replace HB:=bB HB hb;clear hb hbox hg;have H4:=d6.out;have H5:=b9.out;have H6:=d7.out;have H7:=b4.out;have q1:D8.cell? ⟨b7,0,none⟩ = some (.int .i64 0):=cz b6 0;have q2:D8.cell? ⟨b7,1,none⟩ = some (.slice none 0 0):=cz b6 1;have s5:=blk_frozen b6.out 0;have s6:=blk_frozen b6.out 1;have H8:=e1.out;have H9:=d8.out;have q3:D8.cell? ⟨d4,0,none⟩ = some (d5):=cz b3 0;have s7:=blk_frozen b3.out 0;obtain ⟨D9,z0,E0⟩:=Kd.R_slice b0.out;subst E0) | (go_at_call 80;(with_reducible refine (contains81.calls _ _ ((rd_T45 l1 b1).f1) _ _ b8 false _ d4 (bf2_ b4 b4 b3) ?side1 ?side2 ?side3 ?side4 C1.out).mono ?_);(case side1=>exact Kd.C_below e8.out (bl HB));(case side2=>exact e9.out);(case side3=>refine (Kd.R_reads' (e:=3) (base:=w.heap.size) (ok:=fun k_=>some k_ ≠ (l9:Value).ownBlock) (n:=b8.length) (c:=z0) ?_).2.2;exact (by (with_reducible repeat (first | apply Kd.R_alloc | apply Kd.R_drewN | apply Kd.R_drew));exact (Kd.R_mono (Kd.R_far (p:=⟨b7,1,none⟩) (Kd.R_far (p:=⟨b7,0,none⟩) (Kd.R_types b0.out b6.out (by decide)) (fun _ hk=>hk.2) (.int .i64 ((rd_T45 l1 b1).f0))) (fun _ hk=>hk.2) (.slice d0 ((rd_T45 l1 b1).f1).length d1)) (fun _ h_=>h_.1))));(case side4=>exact (Kd.R_reads' b0.out).2.1);rintro e S9 ⟨rfl,hb⟩;replace d2:=A_ (Kd.R_below (by (with_reducible repeat (first | apply Kd.R_alloc | apply Kd.R_drewN | apply Kd.R_drew));exact (Kd.R_mono (Kd.R_far (p:=⟨b7,1,none⟩) (Kd.R_far (p:=⟨b7,0,none⟩) (Kd.R_types d2.out b6.out (by decide)) (fun _ hk=>hk.2) (.int .i64 ((rd_T45 l1 b1).f0))) (fun _ hk=>hk.2) (.slice d0 ((rd_T45 l1 b1).f1).length d1)) (fun _ h_=>h_.1))) hb);replace b0:=A_ (Kd.R_below (by (with_reducible repeat (first | apply Kd.R_alloc | apply Kd.R_drewN | apply Kd.R_drew));exact (Kd.R_mono (Kd.R_far (p:=⟨b7,1,none⟩) (Kd.R_far (p:=⟨b7,0,none⟩) (Kd.R_types b0.out b6.out (by decide)) (fun _ hk=>hk.2) (.int .i64 ((rd_T45 l1 b1).f0))) (fun _ hk=>hk.2) (.slice d0 ((rd_T45 l1 b1).f1).length d1)) (fun _ h_=>h_.1))) hb);replace b2:=A_ (blk_below (g:=d9) (o:=.cells #[.slice A0 l0.length c0,.slice (some e7) l1.length c1] 109 (0,0)) (bf2_ b9 b9 b2) hb);replace b3:=A_ (blk_below (g:=d4) (o:=.cells #[.slice D9 b8.length z0] 28 (0,0)) (bf2_ b4 b4 b3) hb);replace b6:=A_ (blk_below (g:=b7) (o:=.cells #[.int .i64 ((rd_T45 l1 b1).f0),.slice d0 ((rd_T45 l1 b1).f1).length d1] 45 (0,0)) (by (with_reducible repeat (first | refine blk_drewN ?_ _ | refine blk_drew ?_ | refine blk_alloc ?_ _));refine blk_put (cs:=#[.int .i64 ((rd_T45 l1 b1).f0),.slice none 0 0]) ?_ 1 _ rfl;(with_reducible repeat (first | refine blk_drewN ?_ _ | refine blk_drew ?_ | refine blk_alloc ?_ _));refine blk_put (cs:=#[.int .i64 0,.slice none 0 0]) ?_ 0 _ rfl;(with_reducible repeat (first | refine blk_drewN ?_ _ | refine blk_drew ?_ | refine blk_alloc ?_ _));exact b6.out) hb);replace HB:=bB HB hb;(try clear hb)))
      repeat (go_quiet (first | ((with_reducible refine gate_dst (N:=12) rfl ?_);refine box_event ?hg (N:=12) ?hd (cs:=#[.int .i64 0,.slice none 0 0]) (t:=45) ?hr ?_;(case hd=>rfl);(case hg=>rfl);(case hr=>first | (go_simp;done) | (go_simp;rfl));intro b7 hg D8 hbox hb;have b6:=A_ hbox;have h0:=gw hg HB;have i9:=h0;have b9:=nl hg b2;have d6:=ng hg b2;have b4:=nl hg b3;have d7:=ng hg b3;replace d2:=rB d2 hb;replace b0:=rB b0 hb;replace b2:=kB b2 hb;replace b3:=kB b3 hb;replace HB:=bB HB hb;clear hb hbox hg;have H4:=d6.out;have H5:=b9.out;have H6:=d7.out;have H7:=b4.out;have q1:D8.cell? ⟨b7,0,none⟩ = some (.int .i64 0):=cz b6 0;have q2:D8.cell? ⟨b7,1,none⟩ = some (.slice none 0 0):=cz b6 1;have s5:=blk_frozen b6.out 0;have s6:=blk_frozen b6.out 1;have H8:=e1.out;have H9:=d8.out;have q3:D8.cell? ⟨d4,0,none⟩ = some (d5):=cz b3 0;have s7:=blk_frozen b3.out 0;obtain ⟨D9,z0,E0⟩:=Kd.R_slice b0.out;subst E0) | (go_at_call 80;(with_reducible refine (contains81.calls _ _ ((rd_T45 l1 b1).f1) _ _ b8 false _ d4 (bf2_ b4 b4 b3) ?side1 ?side2 ?side3 ?side4 C1.out).mono ?_);(case side1=>exact Kd.C_below e8.out (bl HB));(case side2=>exact e9.out);(case side3=>refine (Kd.R_reads' (e:=3) (base:=w.heap.size) (ok:=fun k_=>some k_ ≠ (l9:Value).ownBlock) (n:=b8.length) (c:=z0) ?_).2.2;exact (by (with_reducible repeat (first | apply Kd.R_alloc | apply Kd.R_drewN | apply Kd.R_drew));exact (Kd.R_mono (Kd.R_far (p:=⟨b7,1,none⟩) (Kd.R_far (p:=⟨b7,0,none⟩) (Kd.R_types b0.out b6.out (by decide)) (fun _ hk=>hk.2) (.int .i64 ((rd_T45 l1 b1).f0))) (fun _ hk=>hk.2) (.slice d0 ((rd_T45 l1 b1).f1).length d1)) (fun _ h_=>h_.1))));(case side4=>exact (Kd.R_reads' b0.out).2.1);rintro e S9 ⟨rfl,hb⟩;replace d2:=A_ (Kd.R_below (by (with_reducible repeat (first | apply Kd.R_alloc | apply Kd.R_drewN | apply Kd.R_drew));exact (Kd.R_mono (Kd.R_far (p:=⟨b7,1,none⟩) (Kd.R_far (p:=⟨b7,0,none⟩) (Kd.R_types d2.out b6.out (by decide)) (fun _ hk=>hk.2) (.int .i64 ((rd_T45 l1 b1).f0))) (fun _ hk=>hk.2) (.slice d0 ((rd_T45 l1 b1).f1).length d1)) (fun _ h_=>h_.1))) hb);replace b0:=A_ (Kd.R_below (by (with_reducible repeat (first | apply Kd.R_alloc | apply Kd.R_drewN | apply Kd.R_drew));exact (Kd.R_mono (Kd.R_far (p:=⟨b7,1,none⟩) (Kd.R_far (p:=⟨b7,0,none⟩) (Kd.R_types b0.out b6.out (by decide)) (fun _ hk=>hk.2) (.int .i64 ((rd_T45 l1 b1).f0))) (fun _ hk=>hk.2) (.slice d0 ((rd_T45 l1 b1).f1).length d1)) (fun _ h_=>h_.1))) hb);replace b2:=A_ (blk_below (g:=d9) (o:=.cells #[.slice A0 l0.length c0,.slice (some e7) l1.length c1] 109 (0,0)) (bf2_ b9 b9 b2) hb);replace b3:=A_ (blk_below (g:=d4) (o:=.cells #[.slice D9 b8.length z0] 28 (0,0)) (bf2_ b4 b4 b3) hb);replace b6:=A_ (blk_below (g:=b7) (o:=.cells #[.int .i64 ((rd_T45 l1 b1).f0),.slice d0 ((rd_T45 l1 b1).f1).length d1] 45 (0,0)) (by (with_reducible repeat (first | refine blk_drewN ?_ _ | refine blk_drew ?_ | refine blk_alloc ?_ _));refine blk_put (cs:=#[.int .i64 ((rd_T45 l1 b1).f0),.slice none 0 0]) ?_ 1 _ rfl;(with_reducible repeat (first | refine blk_drewN ?_ _ | refine blk_drew ?_ | refine blk_alloc ?_ _));refine blk_put (cs:=#[.int .i64 0,.slice none 0 0]) ?_ 0 _ rfl;(with_reducible repeat (first | refine blk_drewN ?_ _ | refine blk_drew ?_ | refine blk_alloc ?_ _));exact b6.out) hb);replace HB:=bB HB hb;(try clear hb)));try go_wp2_with (first | ((with_reducible refine gate_dst (N:=12) rfl ?_);refine box_event ?hg (N:=12) ?hd (cs:=#[.int .i64 0,.slice none 0 0]) (t:=45) ?hr ?_;(case hd=>rfl);(case hg=>rfl);(case hr=>first | (go_simp;done) | (go_simp;rfl));intro b7 hg D8 hbox hb;have b6:=A_ hbox;have h0:=gw hg HB;have i9:=h0;have b9:=nl hg b2;have d6:=ng hg b2;have b4:=nl hg b3;have d7:=ng hg b3;replace d2:=rB d2 hb;replace b0:=rB b0 hb;replace b2:=kB b2 hb;replace b3:=kB b3 hb;replace HB:=bB HB hb;clear hb hbox hg;have H4:=d6.out;have H5:=b9.out;have H6:=d7.out;have H7:=b4.out;have q1:D8.cell? ⟨b7,0,none⟩ = some (.int .i64 0):=cz b6 0;have q2:D8.cell? ⟨b7,1,none⟩ = some (.slice none 0 0):=cz b6 1;have s5:=blk_frozen b6.out 0;have s6:=blk_frozen b6.out 1;have H8:=e1.out;have H9:=d8.out;have q3:D8.cell? ⟨d4,0,none⟩ = some (d5):=cz b3 0;have s7:=blk_frozen b3.out 0;obtain ⟨D9,z0,E0⟩:=Kd.R_slice b0.out;subst E0) | (go_at_call 80;(with_reducible refine (contains81.calls _ _ ((rd_T45 l1 b1).f1) _ _ b8 false _ d4 (bf2_ b4 b4 b3) ?side1 ?side2 ?side3 ?side4 C1.out).mono ?_);(case side1=>exact Kd.C_below e8.out (bl HB));(case side2=>exact e9.out);(case side3=>refine (Kd.R_reads' (e:=3) (base:=w.heap.size) (ok:=fun k_=>some k_ ≠ (l9:Value).ownBlock) (n:=b8.length) (c:=z0) ?_).2.2;exact (by (with_reducible repeat (first | apply Kd.R_alloc | apply Kd.R_drewN | apply Kd.R_drew));exact (Kd.R_mono (Kd.R_far (p:=⟨b7,1,none⟩) (Kd.R_far (p:=⟨b7,0,none⟩) (Kd.R_types b0.out b6.out (by decide)) (fun _ hk=>hk.2) (.int .i64 ((rd_T45 l1 b1).f0))) (fun _ hk=>hk.2) (.slice d0 ((rd_T45 l1 b1).f1).length d1)) (fun _ h_=>h_.1))));(case side4=>exact (Kd.R_reads' b0.out).2.1);rintro e S9 ⟨rfl,hb⟩;replace d2:=A_ (Kd.R_below (by (with_reducible repeat (first | apply Kd.R_alloc | apply Kd.R_drewN | apply Kd.R_drew));exact (Kd.R_mono (Kd.R_far (p:=⟨b7,1,none⟩) (Kd.R_far (p:=⟨b7,0,none⟩) (Kd.R_types d2.out b6.out (by decide)) (fun _ hk=>hk.2) (.int .i64 ((rd_T45 l1 b1).f0))) (fun _ hk=>hk.2) (.slice d0 ((rd_T45 l1 b1).f1).length d1)) (fun _ h_=>h_.1))) hb);replace b0:=A_ (Kd.R_below (by (with_reducible repeat (first | apply Kd.R_alloc | apply Kd.R_drewN | apply Kd.R_drew));exact (Kd.R_mono (Kd.R_far (p:=⟨b7,1,none⟩) (Kd.R_far (p:=⟨b7,0,none⟩) (Kd.R_types b0.out b6.out (by decide)) (fun _ hk=>hk.2) (.int .i64 ((rd_T45 l1 b1).f0))) (fun _ hk=>hk.2) (.slice d0 ((rd_T45 l1 b1).f1).length d1)) (fun _ h_=>h_.1))) hb);replace b2:=A_ (blk_below (g:=d9) (o:=.cells #[.slice A0 l0.length c0,.slice (some e7) l1.length c1] 109 (0,0)) (bf2_ b9 b9 b2) hb);replace b3:=A_ (blk_below (g:=d4) (o:=.cells #[.slice D9 b8.length z0] 28 (0,0)) (bf2_ b4 b4 b3) hb);replace b6:=A_ (blk_below (g:=b7) (o:=.cells #[.int .i64 ((rd_T45 l1 b1).f0),.slice d0 ((rd_T45 l1 b1).f1).length d1] 45 (0,0)) (by (with_reducible repeat (first | refine blk_drewN ?_ _ | refine blk_drew ?_ | refine blk_alloc ?_ _));refine blk_put (cs:=#[.int .i64 ((rd_T45 l1 b1).f0),.slice none 0 0]) ?_ 1 _ rfl;(with_reducible repeat (first | refine blk_drewN ?_ _ | refine blk_drew ?_ | refine blk_alloc ?_ _));refine blk_put (cs:=#[.int .i64 0,.slice none 0 0]) ?_ 0 _ rfl;(with_reducible repeat (first | refine blk_drewN ?_ _ | refine blk_drew ?_ | refine blk_alloc ?_ _));exact b6.out) hb);replace HB:=bB HB hb;(try clear hb))))
      go_roundg k2
      case measure=>have:=B0.out;have:=C0.out;omega
      case rel=>exact ⟨(b1),(wrap64 (b1 + 1)),rf_,rf_,H',⟨by have:=B0.out;have:=C0.out;omega⟩,⟨kr_ d2⟩,⟨kr_ b0⟩,⟨dr_ b2⟩,⟨dr_ b3⟩,⟨by repeat (first | (with_reducible first | exact HB.out | apply below_alloc | apply pw_below_drewN | apply below_drew1 | refine below_set ?_ l7.out | refine below_set ?_ l8.out | refine below_set ?_ i9.out) | exact HB.out)⟩⟩
     rw [if_neg K1] at H
     have G5:decide (b5 < 0) = false:=decide_eq_false K1
     clear K1
     by_cases N1:b1 < (e0.length:Int)
     case neg =>
      rw [if_neg N1] at H
      exact absurd H (by simp)
     rw [if_pos N1] at H
     have N2:decide (b1 < (e0.length:Int)) = true:=decide_eq_true N1
     clear N1
     by_cases N3:0 ≤ b5
     case neg =>
      rw [if_neg N3] at H
      exact absurd H (by simp)
     rw [if_pos N3] at H
     have N4:decide (0 ≤ b5) = true:=decide_eq_true N3
     clear N3
     by_cases N5:b5 < (l1.length:Int)
     case neg =>
      rw [if_neg N5] at H
      exact absurd H (by simp)
     rw [if_pos N5] at H
     have N6:decide (b5 < (l1.length:Int)) = true:=decide_eq_true N5
     clear N5
     by_cases N7:b5 < (e0.length:Int)
     case neg =>
      rw [if_neg N7] at H
      exact absurd H (by simp)
     rw [if_pos N7] at H
     have N8:decide (b5 < (e0.length:Int)) = true:=decide_eq_true N7
     clear N7
     by_cases K2:(wrap64 ((wrap64 ((rd e0 b1) + 1)) * ((rd_T45 l1 b5).f0))) < (wrap64 ((wrap64 ((rd e0 b5) + 1)) * ((rd_T45 l1 b1).f0)))
     ·rw [if_pos K2] at H
      have G6:decide ((wrap64 ((wrap64 ((rd e0 b1) + 1)) * ((rd_T45 l1 b5).f0))) < (wrap64 ((wrap64 ((rd e0 b5) + 1)) * ((rd_T45 l1 b1).f0)))) = true:=decide_eq_true K2
      clear K2
      have H':=A_ H
      clear H
      have m5:0 ≤ (b1:Int):=oa_
      have m6:b1 < (l1.length:Int):=oa_
      obtain ⟨e7,d0,d1,z4,h4,h5,h6,h7⟩:=at_T45 p1.out b1 m5 m6
      cases z4
      replace h4:=cT HB h4
      replace h5:=cT HB h5
      have e8:=A_ h7
      have e9:=A_ h6
      clear h7 h6
      replace m5:=eq_true m5
      replace m6:=eq_true m6
      go_wp2_with (first | ((with_reducible refine gate_dst (N:=12) rfl ?_);refine box_event ?hg (N:=12) ?hd (cs:=#[.int .i64 0,.slice none 0 0]) (t:=45) ?hr ?_;(case hd=>rfl);(case hg=>rfl);(case hr=>first | (go_simp;done) | (go_simp;rfl));intro b7 hg E1 hbox hb;have b6:=A_ hbox;have h0:=gw hg HB;have i9:=h0;have b9:=nl hg b2;have d6:=ng hg b2;have b4:=nl hg b3;have d7:=ng hg b3;replace d2:=rB d2 hb;replace b0:=rB b0 hb;replace b2:=kB b2 hb;replace b3:=kB b3 hb;replace HB:=bB HB hb;clear hb hbox hg;have I0:=d6.out;have I1:=b9.out;have I2:=d7.out;have I3:=b4.out;have q4:E1.cell? ⟨b7,0,none⟩ = some (.int .i64 0):=cz b6 0;have q5:E1.cell? ⟨b7,1,none⟩ = some (.slice none 0 0):=cz b6 1;have s8:=blk_frozen b6.out 0;have s9:=blk_frozen b6.out 1;have I4:=e1.out;have I5:=d8.out;have q6:E1.cell? ⟨d4,0,none⟩ = some (d5):=cz b3 0;have t0:=blk_frozen b3.out 0;obtain ⟨E2,z1,E3⟩:=Kd.R_slice b0.out;subst E3) | (go_at_call 80;(with_reducible refine (contains81.calls _ _ ((rd_T45 l1 b1).f1) _ _ b8 false _ d4 (bf2_ b4 b4 b3) ?side1 ?side2 ?side3 ?side4 C1.out).mono ?_);(case side1=>exact Kd.C_below e8.out (bl HB));(case side2=>exact e9.out);(case side3=>refine (Kd.R_reads' (e:=3) (base:=w.heap.size) (ok:=fun k_=>some k_ ≠ (l9:Value).ownBlock) (n:=b8.length) (c:=z1) ?_).2.2;exact (by (with_reducible repeat (first | apply Kd.R_alloc | apply Kd.R_drewN | apply Kd.R_drew));exact (Kd.R_mono (Kd.R_far (p:=⟨b7,1,none⟩) (Kd.R_far (p:=⟨b7,0,none⟩) (Kd.R_types b0.out b6.out (by decide)) (fun _ hk=>hk.2) (.int .i64 ((rd_T45 l1 b1).f0))) (fun _ hk=>hk.2) (.slice d0 ((rd_T45 l1 b1).f1).length d1)) (fun _ h_=>h_.1))));(case side4=>exact (Kd.R_reads' b0.out).2.1);rintro e A6 ⟨rfl,hb⟩;replace d2:=A_ (Kd.R_below (by (with_reducible repeat (first | apply Kd.R_alloc | apply Kd.R_drewN | apply Kd.R_drew));exact (Kd.R_mono (Kd.R_far (p:=⟨b7,1,none⟩) (Kd.R_far (p:=⟨b7,0,none⟩) (Kd.R_types d2.out b6.out (by decide)) (fun _ hk=>hk.2) (.int .i64 ((rd_T45 l1 b1).f0))) (fun _ hk=>hk.2) (.slice d0 ((rd_T45 l1 b1).f1).length d1)) (fun _ h_=>h_.1))) hb);replace b0:=A_ (Kd.R_below (by (with_reducible repeat (first | apply Kd.R_alloc | apply Kd.R_drewN | apply Kd.R_drew));exact (Kd.R_mono (Kd.R_far (p:=⟨b7,1,none⟩) (Kd.R_far (p:=⟨b7,0,none⟩) (Kd.R_types b0.out b6.out (by decide)) (fun _ hk=>hk.2) (.int .i64 ((rd_T45 l1 b1).f0))) (fun _ hk=>hk.2) (.slice d0 ((rd_T45 l1 b1).f1).length d1)) (fun _ h_=>h_.1))) hb);replace b2:=A_ (blk_below (g:=d9) (o:=.cells #[.slice A0 l0.length c0,.slice (some e7) l1.length c1] 109 (0,0)) (bf2_ b9 b9 b2) hb);replace b3:=A_ (blk_below (g:=d4) (o:=.cells #[.slice E2 b8.length z1] 28 (0,0)) (bf2_ b4 b4 b3) hb);replace b6:=A_ (blk_below (g:=b7) (o:=.cells #[.int .i64 ((rd_T45 l1 b1).f0),.slice d0 ((rd_T45 l1 b1).f1).length d1] 45 (0,0)) (by (with_reducible repeat (first | refine blk_drewN ?_ _ | refine blk_drew ?_ | refine blk_alloc ?_ _));refine blk_put (cs:=#[.int .i64 ((rd_T45 l1 b1).f0),.slice none 0 0]) ?_ 1 _ rfl;(with_reducible repeat (first | refine blk_drewN ?_ _ | refine blk_drew ?_ | refine blk_alloc ?_ _));refine blk_put (cs:=#[.int .i64 0,.slice none 0 0]) ?_ 0 _ rfl;(with_reducible repeat (first | refine blk_drewN ?_ _ | refine blk_drew ?_ | refine blk_alloc ?_ _));exact b6.out) hb);replace HB:=bB HB hb;(try clear hb);obtain ⟨O4,O5,E4⟩:=Kd.R_slice d2.out;subst E4;have i2:0 ≤ (b1:Int):=oa_;have i5:b1 < (e0.length:Int):=oa_;obtain ⟨m0,o4,m3⟩:=Kd.at_int (Kd.R_reads' d2.out).2.2 b1 i2 i5;cases o4;replace i2:=eq_true i2;replace i5:=eq_true i5;have q8:A6.cell? ⟨d9,0,none⟩ = some (.slice A0 l0.length c0):=cz b2 0;have r0:A6.cell? ⟨d9,1,none⟩ = some (.slice (some e7) l1.length c1):=cz b2 1;have t1:=blk_frozen b2.out 0;have t2:=blk_frozen b2.out 1;have i3:0 ≤ (b5:Int):=oa_;have i6:b5 < (l1.length:Int):=oa_;obtain ⟨m1,o5,o6,o7,e3,e4,e5,e6⟩:=at_T45 p1.out b5 i3 i6;obtain rfl:e7 = m1:=(by injection o7);replace e3:=cT HB e3;replace e4:=cT HB e4;have n4:=A_ e6;have n5:=A_ e5;clear e6 e5;replace i3:=eq_true i3;replace i6:=eq_true i6;have i4:0 ≤ (b5:Int):=oa_;have i7:b5 < (e0.length:Int):=oa_;obtain ⟨m2,o8,m4⟩:=Kd.at_int (Kd.R_reads' d2.out).2.2 b5 i4 i7;obtain rfl:m0 = m2:=(by injection o8);replace i4:=eq_true i4;replace i7:=eq_true i7;have r3:A6.cell? ⟨b7,0,none⟩ = some (.int .i64 ((rd_T45 l1 b1).f0)):=cz b6 0;have r4:A6.cell? ⟨b7,1,none⟩ = some (.slice d0 ((rd_T45 l1 b1).f1).length d1):=cz b6 1;have t3:=blk_frozen b6.out 0;have t4:=blk_frozen b6.out 1))
      repeat (go_quiet (first | ((with_reducible refine gate_dst (N:=12) rfl ?_);refine box_event ?hg (N:=12) ?hd (cs:=#[.int .i64 0,.slice none 0 0]) (t:=45) ?hr ?_;(case hd=>rfl);(case hg=>rfl);(case hr=>first | (go_simp;done) | (go_simp;rfl));intro b7 hg E1 hbox hb;have b6:=A_ hbox;have h0:=gw hg HB;have i9:=h0;have b9:=nl hg b2;have d6:=ng hg b2;have b4:=nl hg b3;have d7:=ng hg b3;replace d2:=rB d2 hb;replace b0:=rB b0 hb;replace b2:=kB b2 hb;replace b3:=kB b3 hb;replace HB:=bB HB hb;clear hb hbox hg;have I0:=d6.out;have I1:=b9.out;have I2:=d7.out;have I3:=b4.out;have q4:E1.cell? ⟨b7,0,none⟩ = some (.int .i64 0):=cz b6 0;have q5:E1.cell? ⟨b7,1,none⟩ = some (.slice none 0 0):=cz b6 1;have s8:=blk_frozen b6.out 0;have s9:=blk_frozen b6.out 1;have I4:=e1.out;have I5:=d8.out;have q6:E1.cell? ⟨d4,0,none⟩ = some (d5):=cz b3 0;have t0:=blk_frozen b3.out 0;obtain ⟨E2,z1,E3⟩:=Kd.R_slice b0.out;subst E3) | (go_at_call 80;(with_reducible refine (contains81.calls _ _ ((rd_T45 l1 b1).f1) _ _ b8 false _ d4 (bf2_ b4 b4 b3) ?side1 ?side2 ?side3 ?side4 C1.out).mono ?_);(case side1=>exact Kd.C_below e8.out (bl HB));(case side2=>exact e9.out);(case side3=>refine (Kd.R_reads' (e:=3) (base:=w.heap.size) (ok:=fun k_=>some k_ ≠ (l9:Value).ownBlock) (n:=b8.length) (c:=z1) ?_).2.2;exact (by (with_reducible repeat (first | apply Kd.R_alloc | apply Kd.R_drewN | apply Kd.R_drew));exact (Kd.R_mono (Kd.R_far (p:=⟨b7,1,none⟩) (Kd.R_far (p:=⟨b7,0,none⟩) (Kd.R_types b0.out b6.out (by decide)) (fun _ hk=>hk.2) (.int .i64 ((rd_T45 l1 b1).f0))) (fun _ hk=>hk.2) (.slice d0 ((rd_T45 l1 b1).f1).length d1)) (fun _ h_=>h_.1))));(case side4=>exact (Kd.R_reads' b0.out).2.1);rintro e A6 ⟨rfl,hb⟩;replace d2:=A_ (Kd.R_below (by (with_reducible repeat (first | apply Kd.R_alloc | apply Kd.R_drewN | apply Kd.R_drew));exact (Kd.R_mono (Kd.R_far (p:=⟨b7,1,none⟩) (Kd.R_far (p:=⟨b7,0,none⟩) (Kd.R_types d2.out b6.out (by decide)) (fun _ hk=>hk.2) (.int .i64 ((rd_T45 l1 b1).f0))) (fun _ hk=>hk.2) (.slice d0 ((rd_T45 l1 b1).f1).length d1)) (fun _ h_=>h_.1))) hb);replace b0:=A_ (Kd.R_below (by (with_reducible repeat (first | apply Kd.R_alloc | apply Kd.R_drewN | apply Kd.R_drew));exact (Kd.R_mono (Kd.R_far (p:=⟨b7,1,none⟩) (Kd.R_far (p:=⟨b7,0,none⟩) (Kd.R_types b0.out b6.out (by decide)) (fun _ hk=>hk.2) (.int .i64 ((rd_T45 l1 b1).f0))) (fun _ hk=>hk.2) (.slice d0 ((rd_T45 l1 b1).f1).length d1)) (fun _ h_=>h_.1))) hb);replace b2:=A_ (blk_below (g:=d9) (o:=.cells #[.slice A0 l0.length c0,.slice (some e7) l1.length c1] 109 (0,0)) (bf2_ b9 b9 b2) hb);replace b3:=A_ (blk_below (g:=d4) (o:=.cells #[.slice E2 b8.length z1] 28 (0,0)) (bf2_ b4 b4 b3) hb);replace b6:=A_ (blk_below (g:=b7) (o:=.cells #[.int .i64 ((rd_T45 l1 b1).f0),.slice d0 ((rd_T45 l1 b1).f1).length d1] 45 (0,0)) (by (with_reducible repeat (first | refine blk_drewN ?_ _ | refine blk_drew ?_ | refine blk_alloc ?_ _));refine blk_put (cs:=#[.int .i64 ((rd_T45 l1 b1).f0),.slice none 0 0]) ?_ 1 _ rfl;(with_reducible repeat (first | refine blk_drewN ?_ _ | refine blk_drew ?_ | refine blk_alloc ?_ _));refine blk_put (cs:=#[.int .i64 0,.slice none 0 0]) ?_ 0 _ rfl;(with_reducible repeat (first | refine blk_drewN ?_ _ | refine blk_drew ?_ | refine blk_alloc ?_ _));exact b6.out) hb);replace HB:=bB HB hb;(try clear hb);obtain ⟨O4,O5,E4⟩:=Kd.R_slice d2.out;subst E4;have i2:0 ≤ (b1:Int):=oa_;have i5:b1 < (e0.length:Int):=oa_;obtain ⟨m0,o4,m3⟩:=Kd.at_int (Kd.R_reads' d2.out).2.2 b1 i2 i5;cases o4;replace i2:=eq_true i2;replace i5:=eq_true i5;have q8:A6.cell? ⟨d9,0,none⟩ = some (.slice A0 l0.length c0):=cz b2 0;have r0:A6.cell? ⟨d9,1,none⟩ = some (.slice (some e7) l1.length c1):=cz b2 1;have t1:=blk_frozen b2.out 0;have t2:=blk_frozen b2.out 1;have i3:0 ≤ (b5:Int):=oa_;have i6:b5 < (l1.length:Int):=oa_;obtain ⟨m1,o5,o6,o7,e3,e4,e5,e6⟩:=at_T45 p1.out b5 i3 i6;obtain rfl:e7 = m1:=(by injection o7);replace e3:=cT HB e3;replace e4:=cT HB e4;have n4:=A_ e6;have n5:=A_ e5;clear e6 e5;replace i3:=eq_true i3;replace i6:=eq_true i6;have i4:0 ≤ (b5:Int):=oa_;have i7:b5 < (e0.length:Int):=oa_;obtain ⟨m2,o8,m4⟩:=Kd.at_int (Kd.R_reads' d2.out).2.2 b5 i4 i7;obtain rfl:m0 = m2:=(by injection o8);replace i4:=eq_true i4;replace i7:=eq_true i7;have r3:A6.cell? ⟨b7,0,none⟩ = some (.int .i64 ((rd_T45 l1 b1).f0)):=cz b6 0;have r4:A6.cell? ⟨b7,1,none⟩ = some (.slice d0 ((rd_T45 l1 b1).f1).length d1):=cz b6 1;have t3:=blk_frozen b6.out 0;have t4:=blk_frozen b6.out 1));try go_wp2_with (first | ((with_reducible refine gate_dst (N:=12) rfl ?_);refine box_event ?hg (N:=12) ?hd (cs:=#[.int .i64 0,.slice none 0 0]) (t:=45) ?hr ?_;(case hd=>rfl);(case hg=>rfl);(case hr=>first | (go_simp;done) | (go_simp;rfl));intro b7 hg E1 hbox hb;have b6:=A_ hbox;have h0:=gw hg HB;have i9:=h0;have b9:=nl hg b2;have d6:=ng hg b2;have b4:=nl hg b3;have d7:=ng hg b3;replace d2:=rB d2 hb;replace b0:=rB b0 hb;replace b2:=kB b2 hb;replace b3:=kB b3 hb;replace HB:=bB HB hb;clear hb hbox hg;have I0:=d6.out;have I1:=b9.out;have I2:=d7.out;have I3:=b4.out;have q4:E1.cell? ⟨b7,0,none⟩ = some (.int .i64 0):=cz b6 0;have q5:E1.cell? ⟨b7,1,none⟩ = some (.slice none 0 0):=cz b6 1;have s8:=blk_frozen b6.out 0;have s9:=blk_frozen b6.out 1;have I4:=e1.out;have I5:=d8.out;have q6:E1.cell? ⟨d4,0,none⟩ = some (d5):=cz b3 0;have t0:=blk_frozen b3.out 0;obtain ⟨E2,z1,E3⟩:=Kd.R_slice b0.out;subst E3) | (go_at_call 80;(with_reducible refine (contains81.calls _ _ ((rd_T45 l1 b1).f1) _ _ b8 false _ d4 (bf2_ b4 b4 b3) ?side1 ?side2 ?side3 ?side4 C1.out).mono ?_);(case side1=>exact Kd.C_below e8.out (bl HB));(case side2=>exact e9.out);(case side3=>refine (Kd.R_reads' (e:=3) (base:=w.heap.size) (ok:=fun k_=>some k_ ≠ (l9:Value).ownBlock) (n:=b8.length) (c:=z1) ?_).2.2;exact (by (with_reducible repeat (first | apply Kd.R_alloc | apply Kd.R_drewN | apply Kd.R_drew));exact (Kd.R_mono (Kd.R_far (p:=⟨b7,1,none⟩) (Kd.R_far (p:=⟨b7,0,none⟩) (Kd.R_types b0.out b6.out (by decide)) (fun _ hk=>hk.2) (.int .i64 ((rd_T45 l1 b1).f0))) (fun _ hk=>hk.2) (.slice d0 ((rd_T45 l1 b1).f1).length d1)) (fun _ h_=>h_.1))));(case side4=>exact (Kd.R_reads' b0.out).2.1);rintro e A6 ⟨rfl,hb⟩;replace d2:=A_ (Kd.R_below (by (with_reducible repeat (first | apply Kd.R_alloc | apply Kd.R_drewN | apply Kd.R_drew));exact (Kd.R_mono (Kd.R_far (p:=⟨b7,1,none⟩) (Kd.R_far (p:=⟨b7,0,none⟩) (Kd.R_types d2.out b6.out (by decide)) (fun _ hk=>hk.2) (.int .i64 ((rd_T45 l1 b1).f0))) (fun _ hk=>hk.2) (.slice d0 ((rd_T45 l1 b1).f1).length d1)) (fun _ h_=>h_.1))) hb);replace b0:=A_ (Kd.R_below (by (with_reducible repeat (first | apply Kd.R_alloc | apply Kd.R_drewN | apply Kd.R_drew));exact (Kd.R_mono (Kd.R_far (p:=⟨b7,1,none⟩) (Kd.R_far (p:=⟨b7,0,none⟩) (Kd.R_types b0.out b6.out (by decide)) (fun _ hk=>hk.2) (.int .i64 ((rd_T45 l1 b1).f0))) (fun _ hk=>hk.2) (.slice d0 ((rd_T45 l1 b1).f1).length d1)) (fun _ h_=>h_.1))) hb);replace b2:=A_ (blk_below (g:=d9) (o:=.cells #[.slice A0 l0.length c0,.slice (some e7) l1.length c1] 109 (0,0)) (bf2_ b9 b9 b2) hb);replace b3:=A_ (blk_below (g:=d4) (o:=.cells #[.slice E2 b8.length z1] 28 (0,0)) (bf2_ b4 b4 b3) hb);replace b6:=A_ (blk_below (g:=b7) (o:=.cells #[.int .i64 ((rd_T45 l1 b1).f0),.slice d0 ((rd_T45 l1 b1).f1).length d1] 45 (0,0)) (by (with_reducible repeat (first | refine blk_drewN ?_ _ | refine blk_drew ?_ | refine blk_alloc ?_ _));refine blk_put (cs:=#[.int .i64 ((rd_T45 l1 b1).f0),.slice none 0 0]) ?_ 1 _ rfl;(with_reducible repeat (first | refine blk_drewN ?_ _ | refine blk_drew ?_ | refine blk_alloc ?_ _));refine blk_put (cs:=#[.int .i64 0,.slice none 0 0]) ?_ 0 _ rfl;(with_reducible repeat (first | refine blk_drewN ?_ _ | refine blk_drew ?_ | refine blk_alloc ?_ _));exact b6.out) hb);replace HB:=bB HB hb;(try clear hb);obtain ⟨O4,O5,E4⟩:=Kd.R_slice d2.out;subst E4;have i2:0 ≤ (b1:Int):=oa_;have i5:b1 < (e0.length:Int):=oa_;obtain ⟨m0,o4,m3⟩:=Kd.at_int (Kd.R_reads' d2.out).2.2 b1 i2 i5;cases o4;replace i2:=eq_true i2;replace i5:=eq_true i5;have q8:A6.cell? ⟨d9,0,none⟩ = some (.slice A0 l0.length c0):=cz b2 0;have r0:A6.cell? ⟨d9,1,none⟩ = some (.slice (some e7) l1.length c1):=cz b2 1;have t1:=blk_frozen b2.out 0;have t2:=blk_frozen b2.out 1;have i3:0 ≤ (b5:Int):=oa_;have i6:b5 < (l1.length:Int):=oa_;obtain ⟨m1,o5,o6,o7,e3,e4,e5,e6⟩:=at_T45 p1.out b5 i3 i6;obtain rfl:e7 = m1:=(by injection o7);replace e3:=cT HB e3;replace e4:=cT HB e4;have n4:=A_ e6;have n5:=A_ e5;clear e6 e5;replace i3:=eq_true i3;replace i6:=eq_true i6;have i4:0 ≤ (b5:Int):=oa_;have i7:b5 < (e0.length:Int):=oa_;obtain ⟨m2,o8,m4⟩:=Kd.at_int (Kd.R_reads' d2.out).2.2 b5 i4 i7;obtain rfl:m0 = m2:=(by injection o8);replace i4:=eq_true i4;replace i7:=eq_true i7;have r3:A6.cell? ⟨b7,0,none⟩ = some (.int .i64 ((rd_T45 l1 b1).f0)):=cz b6 0;have r4:A6.cell? ⟨b7,1,none⟩ = some (.slice d0 ((rd_T45 l1 b1).f1).length d1):=cz b6 1;have t3:=blk_frozen b6.out 0;have t4:=blk_frozen b6.out 1)))
      go_roundg k2
      case measure=>have:=B0.out;have:=C0.out;omega
      case rel=>exact ⟨(b1),(wrap64 (b1 + 1)),rf_,rf_,H',⟨by have:=B0.out;have:=C0.out;omega⟩,⟨kr_ d2⟩,⟨kr_ b0⟩,⟨dr_ b2⟩,⟨dr_ b3⟩,⟨by repeat (first | (with_reducible first | exact HB.out | apply below_alloc | apply pw_below_drewN | apply below_drew1 | refine below_set ?_ l7.out | refine below_set ?_ l8.out | refine below_set ?_ i9.out) | exact HB.out)⟩⟩
     rw [if_neg K2] at H
     have G6:decide ((wrap64 ((wrap64 ((rd e0 b1) + 1)) * ((rd_T45 l1 b5).f0))) < (wrap64 ((wrap64 ((rd e0 b5) + 1)) * ((rd_T45 l1 b1).f0)))) = false:=decide_eq_false K2
     clear K2
     have H':=A_ H
     clear H
     have m5:0 ≤ (b1:Int):=oa_
     have m6:b1 < (l1.length:Int):=oa_
     obtain ⟨e7,d0,d1,z4,h4,h5,h6,h7⟩:=at_T45 p1.out b1 m5 m6
     cases z4
     replace h4:=cT HB h4
     replace h5:=cT HB h5
     have e8:=A_ h7
     have e9:=A_ h6
     clear h7 h6
     replace m5:=eq_true m5
     replace m6:=eq_true m6
     go_wp2_with (first | ((with_reducible refine gate_dst (N:=12) rfl ?_);refine box_event ?hg (N:=12) ?hd (cs:=#[.int .i64 0,.slice none 0 0]) (t:=45) ?hr ?_;(case hd=>rfl);(case hg=>rfl);(case hr=>first | (go_simp;done) | (go_simp;rfl));intro b7 hg E5 hbox hb;have b6:=A_ hbox;have h0:=gw hg HB;have i9:=h0;have b9:=nl hg b2;have d6:=ng hg b2;have b4:=nl hg b3;have d7:=ng hg b3;replace d2:=rB d2 hb;replace b0:=rB b0 hb;replace b2:=kB b2 hb;replace b3:=kB b3 hb;replace HB:=bB HB hb;clear hb hbox hg;have I6:=d6.out;have I7:=b9.out;have I8:=d7.out;have I9:=b4.out;have r5:E5.cell? ⟨b7,0,none⟩ = some (.int .i64 0):=cz b6 0;have r6:E5.cell? ⟨b7,1,none⟩ = some (.slice none 0 0):=cz b6 1;have t5:=blk_frozen b6.out 0;have t6:=blk_frozen b6.out 1;have J0:=e1.out;have J1:=d8.out;have r7:E5.cell? ⟨d4,0,none⟩ = some (d5):=cz b3 0;have t7:=blk_frozen b3.out 0;obtain ⟨E6,z2,E7⟩:=Kd.R_slice b0.out;subst E7) | (go_at_call 80;(with_reducible refine (contains81.calls _ _ ((rd_T45 l1 b1).f1) _ _ b8 false _ d4 (bf2_ b4 b4 b3) ?side1 ?side2 ?side3 ?side4 C1.out).mono ?_);(case side1=>exact Kd.C_below e8.out (bl HB));(case side2=>exact e9.out);(case side3=>refine (Kd.R_reads' (e:=3) (base:=w.heap.size) (ok:=fun k_=>some k_ ≠ (l9:Value).ownBlock) (n:=b8.length) (c:=z2) ?_).2.2;exact (by (with_reducible repeat (first | apply Kd.R_alloc | apply Kd.R_drewN | apply Kd.R_drew));exact (Kd.R_mono (Kd.R_far (p:=⟨b7,1,none⟩) (Kd.R_far (p:=⟨b7,0,none⟩) (Kd.R_types b0.out b6.out (by decide)) (fun _ hk=>hk.2) (.int .i64 ((rd_T45 l1 b1).f0))) (fun _ hk=>hk.2) (.slice d0 ((rd_T45 l1 b1).f1).length d1)) (fun _ h_=>h_.1))));(case side4=>exact (Kd.R_reads' b0.out).2.1);rintro e A7 ⟨rfl,hb⟩;replace d2:=A_ (Kd.R_below (by (with_reducible repeat (first | apply Kd.R_alloc | apply Kd.R_drewN | apply Kd.R_drew));exact (Kd.R_mono (Kd.R_far (p:=⟨b7,1,none⟩) (Kd.R_far (p:=⟨b7,0,none⟩) (Kd.R_types d2.out b6.out (by decide)) (fun _ hk=>hk.2) (.int .i64 ((rd_T45 l1 b1).f0))) (fun _ hk=>hk.2) (.slice d0 ((rd_T45 l1 b1).f1).length d1)) (fun _ h_=>h_.1))) hb);replace b0:=A_ (Kd.R_below (by (with_reducible repeat (first | apply Kd.R_alloc | apply Kd.R_drewN | apply Kd.R_drew));exact (Kd.R_mono (Kd.R_far (p:=⟨b7,1,none⟩) (Kd.R_far (p:=⟨b7,0,none⟩) (Kd.R_types b0.out b6.out (by decide)) (fun _ hk=>hk.2) (.int .i64 ((rd_T45 l1 b1).f0))) (fun _ hk=>hk.2) (.slice d0 ((rd_T45 l1 b1).f1).length d1)) (fun _ h_=>h_.1))) hb);replace b2:=A_ (blk_below (g:=d9) (o:=.cells #[.slice A0 l0.length c0,.slice (some e7) l1.length c1] 109 (0,0)) (bf2_ b9 b9 b2) hb);replace b3:=A_ (blk_below (g:=d4) (o:=.cells #[.slice E6 b8.length z2] 28 (0,0)) (bf2_ b4 b4 b3) hb);replace b6:=A_ (blk_below (g:=b7) (o:=.cells #[.int .i64 ((rd_T45 l1 b1).f0),.slice d0 ((rd_T45 l1 b1).f1).length d1] 45 (0,0)) (by (with_reducible repeat (first | refine blk_drewN ?_ _ | refine blk_drew ?_ | refine blk_alloc ?_ _));refine blk_put (cs:=#[.int .i64 ((rd_T45 l1 b1).f0),.slice none 0 0]) ?_ 1 _ rfl;(with_reducible repeat (first | refine blk_drewN ?_ _ | refine blk_drew ?_ | refine blk_alloc ?_ _));refine blk_put (cs:=#[.int .i64 0,.slice none 0 0]) ?_ 0 _ rfl;(with_reducible repeat (first | refine blk_drewN ?_ _ | refine blk_drew ?_ | refine blk_alloc ?_ _));exact b6.out) hb);replace HB:=bB HB hb;(try clear hb);obtain ⟨O6,O7,E8⟩:=Kd.R_slice d2.out;subst E8;have i2:0 ≤ (b1:Int):=oa_;have i5:b1 < (e0.length:Int):=oa_;obtain ⟨m0,o4,m3⟩:=Kd.at_int (Kd.R_reads' d2.out).2.2 b1 i2 i5;cases o4;replace i2:=eq_true i2;replace i5:=eq_true i5;have r8:A7.cell? ⟨d9,0,none⟩ = some (.slice A0 l0.length c0):=cz b2 0;have r9:A7.cell? ⟨d9,1,none⟩ = some (.slice (some e7) l1.length c1):=cz b2 1;have t8:=blk_frozen b2.out 0;have t9:=blk_frozen b2.out 1;have i3:0 ≤ (b5:Int):=oa_;have i6:b5 < (l1.length:Int):=oa_;obtain ⟨m1,o5,o6,o7,e3,e4,e5,e6⟩:=at_T45 p1.out b5 i3 i6;obtain rfl:e7 = m1:=(by injection o7);replace e3:=cT HB e3;replace e4:=cT HB e4;have n4:=A_ e6;have n5:=A_ e5;clear e6 e5;replace i3:=eq_true i3;replace i6:=eq_true i6;have i4:0 ≤ (b5:Int):=oa_;have i7:b5 < (e0.length:Int):=oa_;obtain ⟨m2,o8,m4⟩:=Kd.at_int (Kd.R_reads' d2.out).2.2 b5 i4 i7;obtain rfl:m0 = m2:=(by injection o8);replace i4:=eq_true i4;replace i7:=eq_true i7;have s0:A7.cell? ⟨b7,0,none⟩ = some (.int .i64 ((rd_T45 l1 b1).f0)):=cz b6 0;have s1:A7.cell? ⟨b7,1,none⟩ = some (.slice d0 ((rd_T45 l1 b1).f1).length d1):=cz b6 1;have x0:=blk_frozen b6.out 0;have x2:=blk_frozen b6.out 1))
     repeat (go_quiet (first | ((with_reducible refine gate_dst (N:=12) rfl ?_);refine box_event ?hg (N:=12) ?hd (cs:=#[.int .i64 0,.slice none 0 0]) (t:=45) ?hr ?_;(case hd=>rfl);(case hg=>rfl);(case hr=>first | (go_simp;done) | (go_simp;rfl));intro b7 hg E5 hbox hb;have b6:=A_ hbox;have h0:=gw hg HB;have i9:=h0;have b9:=nl hg b2;have d6:=ng hg b2;have b4:=nl hg b3;have d7:=ng hg b3;replace d2:=rB d2 hb;replace b0:=rB b0 hb;replace b2:=kB b2 hb;replace b3:=kB b3 hb;replace HB:=bB HB hb;clear hb hbox hg;have I6:=d6.out;have I7:=b9.out;have I8:=d7.out;have I9:=b4.out;have r5:E5.cell? ⟨b7,0,none⟩ = some (.int .i64 0):=cz b6 0;have r6:E5.cell? ⟨b7,1,none⟩ = some (.slice none 0 0):=cz b6 1;have t5:=blk_frozen b6.out 0;have t6:=blk_frozen b6.out 1;have J0:=e1.out;have J1:=d8.out;have r7:E5.cell? ⟨d4,0,none⟩ = some (d5):=cz b3 0;have t7:=blk_frozen b3.out 0;obtain ⟨E6,z2,E7⟩:=Kd.R_slice b0.out;subst E7) | (go_at_call 80;(with_reducible refine (contains81.calls _ _ ((rd_T45 l1 b1).f1) _ _ b8 false _ d4 (bf2_ b4 b4 b3) ?side1 ?side2 ?side3 ?side4 C1.out).mono ?_);(case side1=>exact Kd.C_below e8.out (bl HB));(case side2=>exact e9.out);(case side3=>refine (Kd.R_reads' (e:=3) (base:=w.heap.size) (ok:=fun k_=>some k_ ≠ (l9:Value).ownBlock) (n:=b8.length) (c:=z2) ?_).2.2;exact (by (with_reducible repeat (first | apply Kd.R_alloc | apply Kd.R_drewN | apply Kd.R_drew));exact (Kd.R_mono (Kd.R_far (p:=⟨b7,1,none⟩) (Kd.R_far (p:=⟨b7,0,none⟩) (Kd.R_types b0.out b6.out (by decide)) (fun _ hk=>hk.2) (.int .i64 ((rd_T45 l1 b1).f0))) (fun _ hk=>hk.2) (.slice d0 ((rd_T45 l1 b1).f1).length d1)) (fun _ h_=>h_.1))));(case side4=>exact (Kd.R_reads' b0.out).2.1);rintro e A7 ⟨rfl,hb⟩;replace d2:=A_ (Kd.R_below (by (with_reducible repeat (first | apply Kd.R_alloc | apply Kd.R_drewN | apply Kd.R_drew));exact (Kd.R_mono (Kd.R_far (p:=⟨b7,1,none⟩) (Kd.R_far (p:=⟨b7,0,none⟩) (Kd.R_types d2.out b6.out (by decide)) (fun _ hk=>hk.2) (.int .i64 ((rd_T45 l1 b1).f0))) (fun _ hk=>hk.2) (.slice d0 ((rd_T45 l1 b1).f1).length d1)) (fun _ h_=>h_.1))) hb);replace b0:=A_ (Kd.R_below (by (with_reducible repeat (first | apply Kd.R_alloc | apply Kd.R_drewN | apply Kd.R_drew));exact (Kd.R_mono (Kd.R_far (p:=⟨b7,1,none⟩) (Kd.R_far (p:=⟨b7,0,none⟩) (Kd.R_types b0.out b6.out (by decide)) (fun _ hk=>hk.2) (.int .i64 ((rd_T45 l1 b1).f0))) (fun _ hk=>hk.2) (.slice d0 ((rd_T45 l1 b1).f1).length d1)) (fun _ h_=>h_.1))) hb);replace b2:=A_ (blk_below (g:=d9) (o:=.cells #[.slice A0 l0.length c0,.slice (some e7) l1.length c1] 109 (0,0)) (bf2_ b9 b9 b2) hb);replace b3:=A_ (blk_below (g:=d4) (o:=.cells #[.slice E6 b8.length z2] 28 (0,0)) (bf2_ b4 b4 b3) hb);replace b6:=A_ (blk_below (g:=b7) (o:=.cells #[.int .i64 ((rd_T45 l1 b1).f0),.slice d0 ((rd_T45 l1 b1).f1).length d1] 45 (0,0)) (by (with_reducible repeat (first | refine blk_drewN ?_ _ | refine blk_drew ?_ | refine blk_alloc ?_ _));refine blk_put (cs:=#[.int .i64 ((rd_T45 l1 b1).f0),.slice none 0 0]) ?_ 1 _ rfl;(with_reducible repeat (first | refine blk_drewN ?_ _ | refine blk_drew ?_ | refine blk_alloc ?_ _));refine blk_put (cs:=#[.int .i64 0,.slice none 0 0]) ?_ 0 _ rfl;(with_reducible repeat (first | refine blk_drewN ?_ _ | refine blk_drew ?_ | refine blk_alloc ?_ _));exact b6.out) hb);replace HB:=bB HB hb;(try clear hb);obtain ⟨O6,O7,E8⟩:=Kd.R_slice d2.out;subst E8;have i2:0 ≤ (b1:Int):=oa_;have i5:b1 < (e0.length:Int):=oa_;obtain ⟨m0,o4,m3⟩:=Kd.at_int (Kd.R_reads' d2.out).2.2 b1 i2 i5;cases o4;replace i2:=eq_true i2;replace i5:=eq_true i5;have r8:A7.cell? ⟨d9,0,none⟩ = some (.slice A0 l0.length c0):=cz b2 0;have r9:A7.cell? ⟨d9,1,none⟩ = some (.slice (some e7) l1.length c1):=cz b2 1;have t8:=blk_frozen b2.out 0;have t9:=blk_frozen b2.out 1;have i3:0 ≤ (b5:Int):=oa_;have i6:b5 < (l1.length:Int):=oa_;obtain ⟨m1,o5,o6,o7,e3,e4,e5,e6⟩:=at_T45 p1.out b5 i3 i6;obtain rfl:e7 = m1:=(by injection o7);replace e3:=cT HB e3;replace e4:=cT HB e4;have n4:=A_ e6;have n5:=A_ e5;clear e6 e5;replace i3:=eq_true i3;replace i6:=eq_true i6;have i4:0 ≤ (b5:Int):=oa_;have i7:b5 < (e0.length:Int):=oa_;obtain ⟨m2,o8,m4⟩:=Kd.at_int (Kd.R_reads' d2.out).2.2 b5 i4 i7;obtain rfl:m0 = m2:=(by injection o8);replace i4:=eq_true i4;replace i7:=eq_true i7;have s0:A7.cell? ⟨b7,0,none⟩ = some (.int .i64 ((rd_T45 l1 b1).f0)):=cz b6 0;have s1:A7.cell? ⟨b7,1,none⟩ = some (.slice d0 ((rd_T45 l1 b1).f1).length d1):=cz b6 1;have x0:=blk_frozen b6.out 0;have x2:=blk_frozen b6.out 1));try go_wp2_with (first | ((with_reducible refine gate_dst (N:=12) rfl ?_);refine box_event ?hg (N:=12) ?hd (cs:=#[.int .i64 0,.slice none 0 0]) (t:=45) ?hr ?_;(case hd=>rfl);(case hg=>rfl);(case hr=>first | (go_simp;done) | (go_simp;rfl));intro b7 hg E5 hbox hb;have b6:=A_ hbox;have h0:=gw hg HB;have i9:=h0;have b9:=nl hg b2;have d6:=ng hg b2;have b4:=nl hg b3;have d7:=ng hg b3;replace d2:=rB d2 hb;replace b0:=rB b0 hb;replace b2:=kB b2 hb;replace b3:=kB b3 hb;replace HB:=bB HB hb;clear hb hbox hg;have I6:=d6.out;have I7:=b9.out;have I8:=d7.out;have I9:=b4.out;have r5:E5.cell? ⟨b7,0,none⟩ = some (.int .i64 0):=cz b6 0;have r6:E5.cell? ⟨b7,1,none⟩ = some (.slice none 0 0):=cz b6 1;have t5:=blk_frozen b6.out 0;have t6:=blk_frozen b6.out 1;have J0:=e1.out;have J1:=d8.out;have r7:E5.cell? ⟨d4,0,none⟩ = some (d5):=cz b3 0;have t7:=blk_frozen b3.out 0;obtain ⟨E6,z2,E7⟩:=Kd.R_slice b0.out;subst E7) | (go_at_call 80;(with_reducible refine (contains81.calls _ _ ((rd_T45 l1 b1).f1) _ _ b8 false _ d4 (bf2_ b4 b4 b3) ?side1 ?side2 ?side3 ?side4 C1.out).mono ?_);(case side1=>exact Kd.C_below e8.out (bl HB));(case side2=>exact e9.out);(case side3=>refine (Kd.R_reads' (e:=3) (base:=w.heap.size) (ok:=fun k_=>some k_ ≠ (l9:Value).ownBlock) (n:=b8.length) (c:=z2) ?_).2.2;exact (by (with_reducible repeat (first | apply Kd.R_alloc | apply Kd.R_drewN | apply Kd.R_drew));exact (Kd.R_mono (Kd.R_far (p:=⟨b7,1,none⟩) (Kd.R_far (p:=⟨b7,0,none⟩) (Kd.R_types b0.out b6.out (by decide)) (fun _ hk=>hk.2) (.int .i64 ((rd_T45 l1 b1).f0))) (fun _ hk=>hk.2) (.slice d0 ((rd_T45 l1 b1).f1).length d1)) (fun _ h_=>h_.1))));(case side4=>exact (Kd.R_reads' b0.out).2.1);rintro e A7 ⟨rfl,hb⟩;replace d2:=A_ (Kd.R_below (by (with_reducible repeat (first | apply Kd.R_alloc | apply Kd.R_drewN | apply Kd.R_drew));exact (Kd.R_mono (Kd.R_far (p:=⟨b7,1,none⟩) (Kd.R_far (p:=⟨b7,0,none⟩) (Kd.R_types d2.out b6.out (by decide)) (fun _ hk=>hk.2) (.int .i64 ((rd_T45 l1 b1).f0))) (fun _ hk=>hk.2) (.slice d0 ((rd_T45 l1 b1).f1).length d1)) (fun _ h_=>h_.1))) hb);replace b0:=A_ (Kd.R_below (by (with_reducible repeat (first | apply Kd.R_alloc | apply Kd.R_drewN | apply Kd.R_drew));exact (Kd.R_mono (Kd.R_far (p:=⟨b7,1,none⟩) (Kd.R_far (p:=⟨b7,0,none⟩) (Kd.R_types b0.out b6.out (by decide)) (fun _ hk=>hk.2) (.int .i64 ((rd_T45 l1 b1).f0))) (fun _ hk=>hk.2) (.slice d0 ((rd_T45 l1 b1).f1).length d1)) (fun _ h_=>h_.1))) hb);replace b2:=A_ (blk_below (g:=d9) (o:=.cells #[.slice A0 l0.length c0,.slice (some e7) l1.length c1] 109 (0,0)) (bf2_ b9 b9 b2) hb);replace b3:=A_ (blk_below (g:=d4) (o:=.cells #[.slice E6 b8.length z2] 28 (0,0)) (bf2_ b4 b4 b3) hb);replace b6:=A_ (blk_below (g:=b7) (o:=.cells #[.int .i64 ((rd_T45 l1 b1).f0),.slice d0 ((rd_T45 l1 b1).f1).length d1] 45 (0,0)) (by (with_reducible repeat (first | refine blk_drewN ?_ _ | refine blk_drew ?_ | refine blk_alloc ?_ _));refine blk_put (cs:=#[.int .i64 ((rd_T45 l1 b1).f0),.slice none 0 0]) ?_ 1 _ rfl;(with_reducible repeat (first | refine blk_drewN ?_ _ | refine blk_drew ?_ | refine blk_alloc ?_ _));refine blk_put (cs:=#[.int .i64 0,.slice none 0 0]) ?_ 0 _ rfl;(with_reducible repeat (first | refine blk_drewN ?_ _ | refine blk_drew ?_ | refine blk_alloc ?_ _));exact b6.out) hb);replace HB:=bB HB hb;(try clear hb);obtain ⟨O6,O7,E8⟩:=Kd.R_slice d2.out;subst E8;have i2:0 ≤ (b1:Int):=oa_;have i5:b1 < (e0.length:Int):=oa_;obtain ⟨m0,o4,m3⟩:=Kd.at_int (Kd.R_reads' d2.out).2.2 b1 i2 i5;cases o4;replace i2:=eq_true i2;replace i5:=eq_true i5;have r8:A7.cell? ⟨d9,0,none⟩ = some (.slice A0 l0.length c0):=cz b2 0;have r9:A7.cell? ⟨d9,1,none⟩ = some (.slice (some e7) l1.length c1):=cz b2 1;have t8:=blk_frozen b2.out 0;have t9:=blk_frozen b2.out 1;have i3:0 ≤ (b5:Int):=oa_;have i6:b5 < (l1.length:Int):=oa_;obtain ⟨m1,o5,o6,o7,e3,e4,e5,e6⟩:=at_T45 p1.out b5 i3 i6;obtain rfl:e7 = m1:=(by injection o7);replace e3:=cT HB e3;replace e4:=cT HB e4;have n4:=A_ e6;have n5:=A_ e5;clear e6 e5;replace i3:=eq_true i3;replace i6:=eq_true i6;have i4:0 ≤ (b5:Int):=oa_;have i7:b5 < (e0.length:Int):=oa_;obtain ⟨m2,o8,m4⟩:=Kd.at_int (Kd.R_reads' d2.out).2.2 b5 i4 i7;obtain rfl:m0 = m2:=(by injection o8);replace i4:=eq_true i4;replace i7:=eq_true i7;have s0:A7.cell? ⟨b7,0,none⟩ = some (.int .i64 ((rd_T45 l1 b1).f0)):=cz b6 0;have s1:A7.cell? ⟨b7,1,none⟩ = some (.slice d0 ((rd_T45 l1 b1).f1).length d1):=cz b6 1;have x0:=blk_frozen b6.out 0;have x2:=blk_frozen b6.out 1)))
     go_roundg k2
     case measure=>have:=B0.out;have:=C0.out;omega
     case rel=>exact ⟨(b5),(wrap64 (b1 + 1)),rf_,rf_,H',⟨by have:=B0.out;have:=C0.out;omega⟩,⟨kr_ d2⟩,⟨kr_ b0⟩,⟨dr_ b2⟩,⟨dr_ b3⟩,⟨by repeat (first | (with_reducible first | exact HB.out | apply below_alloc | apply pw_below_drewN | apply below_drew1 | refine below_set ?_ l7.out | refine below_set ?_ l8.out | refine below_set ?_ i9.out) | exact HB.out)⟩⟩
end Go.Proofs.Ytjohcjfmlhihbaa.G
set_option linter.unusedSectionVars false
namespace Go.Proofs.Ytjohcjfmlhihbaa.P
open Go Go.RowKit Go.Proofs.Ytjohcjfmlhihbaa.G
open Go.Proofs.YtjohcjfmlhihbaaW.PrintWords Go.Proofs.YtjohcjfmlhihbaaW.PrintMore
theorem foldr_add (l:List Int) (x:Int):l.foldr (· + ·) x = l.foldr (· + ·) 0 + x:=by
 induction l with
 | nil=>simp
 | cons a l ih=>simp only [List.foldr_cons,ih];omega
theorem sumI_succ (m:Nat) (f:Nat → Int):sumI (m + 1) f = sumI m f + f m:=by
 unfold sumI
 rw [List.range_succ,List.map_append,List.foldr_append,List.map_cons,List.map_nil,List.foldr_cons,List.foldr_nil,foldr_add,Int.add_zero]
theorem sumI_congr:∀ {m:Nat} {f g:Nat → Int},(∀ v,v < m → f v = g v) → sumI m f = sumI m g
 | 0,_,_,_=>rfl
 | m + 1,f,g,h=>by rw [sumI_succ,sumI_succ,sumI_congr fun v hv=>h v (by omega),h m (by omega)]
theorem sumI_upd:∀ {m:Nat} {f g:Nat → Int} {a:Nat},a < m → (∀ v,v ≠ a → g v = f v) → sumI m g = sumI m f + g a - f a
 | 0,_,_,_,h,_=>by omega
 | m + 1,f,g,a,h,hg=>by
  rw [sumI_succ,sumI_succ]
  by_cases e:a = m
  ·subst e
   rw [sumI_congr (f:=g) (g:=f) fun v hv=>hg v (by omega)];omega
  ·rw [sumI_upd (f:=f) (g:=g) (a:=a) (by omega) hg,hg m (fun h=>e h.symm)];omega
theorem sumI_nonneg:∀ {m:Nat} {f:Nat → Int},(∀ v,v < m → 0 ≤ f v) → 0 ≤ sumI m f
 | 0,_,_=>Int.le_refl _
 | m + 1,f,h=>by
  rw [sumI_succ]
  have:=sumI_nonneg (m:=m) (f:=f) fun v hv=>h v (by omega)
  have:=h m (by omega)
  omega
theorem sumI_ge:∀ {m:Nat} {f:Nat → Int} {a:Nat},(∀ v,v < m → 0 ≤ f v) → a < m → f a ≤ sumI m f
 | 0,_,_,_,h=>by omega
 | m + 1,f,a,h,ha=>by
  rw [sumI_succ]
  have h1:=sumI_nonneg (m:=m) (f:=f) fun v hv=>h v (by omega)
  have h2:=h m (by omega)
  by_cases e:a = m
  ·subst e;omega
  ·have:=sumI_ge (m:=m) (f:=f) (a:=a) (fun v hv=>h v (by omega)) (by omega)
   omega
theorem sumI_le:∀ {m:Nat} {f:Nat → Int} {b:Int},(∀ v,v < m → f v ≤ b) → sumI m f ≤ (m:Int) * b
 | 0,_,_,_=>by simp [sumI]
 | m + 1,f,b,h=>by
  rw [sumI_succ]
  have:=sumI_le (m:=m) (f:=f) (b:=b) fun v hv=>h v (by omega)
  have:=h m (by omega)
  have e:((m + 1:Nat):Int) * b = (m:Int) * b + b:=by push_cast;rw [Int.add_mul,Int.one_mul]
  omega
def pipesOf (u:List S45) (v:Nat):List Int:=(rd_T45 u (v:Int)).f1
def wI (u:List S45) (v:Nat):Int:=(rd_T45 u (v:Int)).f0
def cI (u:List S45) (v q:Nat):Int:=((pipesOf u v).count (q:Int):Int)
theorem okAt_lt {n:Nat} {l:List Int} (h:allF (okAt n l) l.length 0 = true):∀ {j i:Nat},(hi:i < j) → (hj:j < l.length) → l[i]'(Nat.lt_trans hi hj) < l[j]
 | 0,i,h1,_=>by omega
 | j + 1,i,h1,hj=>by
  have:=(allF_iff _ _ _).1 h (j + 1) (by omega) (by omega)
  simp only [okAt,Bool.and_eq_true,Bool.or_eq_true,decide_eq_true_eq] at this
  have h2:=this.2.resolve_left (by omega)
  rw [show j + 1 - 1 = j from rfl,rd_get (show j < l.length by omega),rd_get hj] at h2
  by_cases e:i = j
  ·subst e;exact h2
  ·have:=okAt_lt h (j:=j) (i:=i) (by omega) (by omega)
   omega
theorem okAt_nodup {n:Nat} {l:List Int} (h:allF (okAt n l) l.length 0 = true):l.Nodup:=by
 unfold List.Nodup
 rw [List.pairwise_iff_getElem]
 intro i j hi hj hij
 have:=okAt_lt h hij hj
 omega
section
variable {p:List Int} {u:List S45} (hok:okNet p u = true)
include hok
theorem okU_of {v:Nat} (hv:v < u.length):okU p.length (rd_T45 u (v:Int)) = true:=by
 simp only [okNet,Bool.and_eq_true,decide_eq_true_eq,List.all_eq_true,allF_iff] at hok
 exact hok.2 v (by omega) (by omega)
theorem pipes_nodup {v:Nat} (hv:v < u.length):(pipesOf u v).Nodup:=by
 have:=okU_of hok hv
 simp only [okU,Bool.and_eq_true,decide_eq_true_eq] at this
 exact okAt_nodup this.2
theorem pipes_in {v:Nat} (hv:v < u.length):∀ q ∈ pipesOf u v,0 ≤ q ∧ q < (p.length:Int):=by
 have:=(isN hok).pipe v hv
 unfold pipesOf
 rw [rdT45 hv];exact this
theorem pipes_len {v:Nat} (hv:v < u.length):1 ≤ (pipesOf u v).length ∧ (pipesOf u v).length ≤ 5:=by
 have:=(isN hok).len v hv
 unfold pipesOf
 rw [rdT45 hv];exact this
theorem wI_in {v:Nat} (hv:v < u.length):1 ≤ wI u v ∧ wI u v ≤ 4:=by
 have:=(isN hok).wt v hv
 unfold wI
 rw [rdT45 hv];exact this
theorem cI_le {v:Nat} (hv:v < u.length) (q:Nat):0 ≤ cI u v q ∧ cI u v q ≤ 1:=by
 have:=List.nodup_iff_count.1 (pipes_nodup hok hv) (q:Int)
 unfold cI
 omega
theorem cI_mem {v q:Nat} (hv:v < u.length):cI u v q = if (q:Int) ∈ pipesOf u v then 1 else 0:=by
 have:=List.nodup_iff_count.1 (pipes_nodup hok hv) (q:Int)
 unfold cI
 by_cases h:(q:Int) ∈ pipesOf u v
 ·rw [if_pos h]
  have:=List.count_pos_iff.2 h
  omega
 ·rw [if_neg h,List.count_eq_zero_of_not_mem h];rfl
end
structure WS (p:List Int) (u:List S45) (X F:Nat → Int):Prop where
 x0:∀ v,v < u.length → 0 ≤ X v
 f0:∀ q,q < p.length → 0 ≤ F q
 eq:∀ q,q < p.length → F q + sumI u.length (fun v=>X v * cI u v q) = rd p (q:Int)
def fullB (u:List S45) (F:Nat → Int) (v:Nat):Bool:=(pipesOf u v).any fun q=>decide (F q.toNat = 0)
def pkN (u:List S45) (X F:Nat → Int) (i:Nat) (a:Int):Int:=if fullB u F i = true then a else if a < 0 then (i:Int) else if (X i + 1) * wI u a.toNat < (X a.toNat + 1) * wI u i then (i:Int) else a
def pk (u:List S45) (X F:Nat → Int):Nat → Nat → Int → Int
 | 0,_,a=>a
 | d + 1,i,a=>pk u X F d (i + 1) (pkN u X F i a)
def PkOk (u:List S45) (X F:Nat → Int) (i:Nat) (a:Int):Prop :=
 (a < 0 → a = -1 ∧ ∀ v,v < i → fullB u F v = true) ∧ (0 ≤ a → a < (i:Int) ∧ fullB u F a.toNat = false ∧ ∀ v,v < i → fullB u F v = false → (X a.toNat + 1) * wI u v ≤ (X v + 1) * wI u a.toNat)
theorem cross {a b c wa wb wc:Int} (ha:0 < wa) (hb:0 < wb) (hc:0 < wc) (h1:b * wa < a * wb) (h2:a * wc ≤ c * wa):b * wc ≤ c * wb:=by
 have e1:b * wa * wc ≤ a * wb * wc:=Int.mul_le_mul_of_nonneg_right (by omega) (by omega)
 have e2:a * wc * wb ≤ c * wa * wb:=Int.mul_le_mul_of_nonneg_right h2 (by omega)
 have e3:a * wb * wc = a * wc * wb:=by rw [Int.mul_assoc,Int.mul_comm wb wc,Int.mul_assoc]
 have e4:b * wa * wc = b * wc * wa:=by rw [Int.mul_assoc,Int.mul_comm wa wc,Int.mul_assoc]
 have e5:c * wa * wb = c * wb * wa:=by rw [Int.mul_assoc,Int.mul_comm wa wb,Int.mul_assoc]
 have:b * wc * wa ≤ c * wb * wa:=by omega
 exact Int.le_of_mul_le_mul_right this ha
section
variable {p:List Int} {u:List S45} (hok:okNet p u = true) {X F:Nat → Int}
include hok
theorem PkOk.next {i:Nat} (hi:i < u.length) {a:Int} (h:PkOk u X F i a):PkOk u X F (i + 1) (pkN u X F i a):=by
 unfold pkN
 by_cases hf:fullB u F i = true
 ·rw [if_pos hf]
  refine ⟨fun ha=>⟨(h.1 ha).1,fun v hv=>?_⟩,fun ha=>⟨by have:=(h.2 ha).1;omega,(h.2 ha).2.1,fun v hv hvf=>?_⟩⟩
  ·by_cases e:v = i
   ·rw [e];exact hf
   ·exact (h.1 ha).2 v (by omega)
  ·by_cases e:v = i
   ·rw [e,hf] at hvf;cases hvf
   ·exact (h.2 ha).2.2 v (by omega) hvf
 ·have hf':fullB u F i = false:=by simpa using hf
  rw [if_neg hf]
  by_cases ha:a < 0
  ·rw [if_pos ha]
   refine ⟨fun h=>by omega,fun _=>⟨by omega,by rw [Int.toNat_natCast];exact hf',fun v hv hvf=>?_⟩⟩
   by_cases e:v = i
   ·rw [e,Int.toNat_natCast];exact Int.le_refl _
   ·rw [(h.1 ha).2 v (by omega)] at hvf;cases hvf
  ·rw [if_neg ha]
   obtain ⟨h1,h2,h3⟩:=h.2 (by omega)
   have wa:=wI_in hok (v:=a.toNat) (by omega)
   have wi:=wI_in hok hi
   by_cases hlt:(X i + 1) * wI u a.toNat < (X a.toNat + 1) * wI u i
   ·rw [if_pos hlt]
    refine ⟨fun h=>by omega,fun _=>⟨by omega,by rw [Int.toNat_natCast];exact hf',fun v hv hvf=>?_⟩⟩
    rw [Int.toNat_natCast]
    by_cases e:v = i
    ·rw [e];exact Int.le_refl _
    ·have wv:=wI_in hok (v:=v) (by omega)
     exact cross (by omega) (by omega) (by omega) hlt (h3 v (by omega) hvf)
   ·rw [if_neg hlt]
    refine ⟨fun h=>absurd h ha,fun _=>⟨by omega,h2,fun v hv hvf=>?_⟩⟩
    by_cases e:v = i
    ·rw [e];omega
    ·exact h3 v (by omega) hvf
theorem PkOk.all:∀ {d i:Nat} {a:Int},i + d = u.length → PkOk u X F i a → PkOk u X F u.length (pk u X F d i a)
 | 0,i,a,hi,h=>by
  obtain rfl:i = u.length:=by omega
  exact h
 | d + 1,i,a,hi,h=>PkOk.all (d:=d) (i:=i + 1) (by omega) (h.next hok (by omega))
theorem WS.le (h:WS p u X F) {v:Nat} (hv:v < u.length):X v ≤ 200:=by
 have hl:=(pipes_len hok hv).1
 obtain ⟨q,hq⟩:∃ q,q ∈ pipesOf u v:=⟨(pipesOf u v)[0],List.getElem_mem _⟩
 obtain ⟨q0,q1⟩:=pipes_in hok hv q hq
 obtain ⟨n,rfl⟩:∃ n:Nat,q = (n:Int):=⟨q.toNat,by omega⟩
 have hn:n < p.length:=by omega
 have h1:=h.eq n hn
 have h2:=h.f0 n hn
 have h3:=sumI_ge (m:=u.length) (f:=fun v=>X v * cI u v n) (a:=v) (fun v hv=>Int.mul_nonneg (h.x0 v hv) (cI_le hok hv n).1) hv
 have h4:=(isN hok).cap n hn
 have h5:X v * cI u v n = X v:=by rw [cI_mem hok hv,if_pos hq,Int.mul_one]
 have h6:X v ≤ sumI u.length (fun v=>X v * cI u v n):=by
  have h3':X v * cI u v n ≤ sumI u.length (fun v=>X v * cI u v n):=h3
  rw [h5] at h3';exact h3'
 rw [rd_get hn] at h1
 omega
theorem WS.cap (h:WS p u X F) {q:Nat} (hq:q < p.length):F q ≤ 200:=by
 have h1:=h.eq q hq
 have h3:=sumI_nonneg (m:=u.length) (f:=fun v=>X v * cI u v q) fun v hv=>Int.mul_nonneg (h.x0 v hv) (cI_le hok hv q).1
 have h4:=(isN hok).cap q hq
 rw [rd_get hq] at h1
 omega
theorem WS.step (h:WS p u X F) {a:Nat} (ha:a < u.length) (hf:fullB u F a = false):WS p u (fun v=>if v = a then X a + 1 else X v) (fun q=>F q - cI u a q) where
 x0:=fun v hv=>by
  have:=h.x0 a ha
  have:=h.x0 v hv
  show 0 ≤ if v = a then X a + 1 else X v
  split <;> omega
 f0:=fun q hq=>by
  have h0:=h.f0 q hq
  show 0 ≤ F q - cI u a q
  rw [cI_mem hok ha]
  split
  ·rename_i hm
   have:F q ≠ 0:=fun e=>by
    have:fullB u F a = true:=List.any_eq_true.2 ⟨(q:Int),hm,by rw [Int.toNat_natCast];exact decide_eq_true e⟩
    rw [hf] at this;cases this
   omega
  ·omega
 eq:=fun q hq=>by
  have:=h.eq q hq
  rw [sumI_upd (f:=fun v=>X v * cI u v q) (g:=fun v=>(if v = a then X a + 1 else X v) * cI u v q) (a:=a) ha (fun v hv=>by simp only [if_neg hv])]
  simp only [if_true]
  have e:(X a + 1) * cI u a q = X a * cI u a q + cI u a q:=by rw [Int.add_mul,Int.one_mul]
  omega
theorem WS.start:WS p u (fun _=>0) (fun q=>rd p (q:Int)) where
 x0:=fun _ _=>Int.le_refl _
 f0:=fun q hq=>by rw [rd_get hq];exact ((isN hok).cap q hq).1
 eq:=fun q _=>by
  have:sumI u.length (fun v=>0 * cI u v q) = 0:=by
   rw [sumI_congr (g:=fun _=>0) fun v _=>Int.zero_mul _]
   clear hok
   generalize u.length = m
   induction m with
   | zero=>rfl
   | succ m ih=>rw [sumI_succ,ih];rfl
  show rd p (q:Int) + sumI u.length (fun v=>0 * cI u v q) = _
  omega
end
end Go.Proofs.Ytjohcjfmlhihbaa.P
set_option linter.unusedSectionVars false
namespace Go.Proofs.Ytjohcjfmlhihbaa.P
open Go Go.RowKit Go.Proofs.Ytjohcjfmlhihbaa.G
open Go.Proofs.YtjohcjfmlhihbaaW.PrintWords Go.Proofs.YtjohcjfmlhihbaaW.PrintMore
theorem tab_In {m:Nat} {f:Nat → Int} {q:Int} (h0:0 ≤ q) (h:q < (m:Int)):rd (tab m f) q = f q.toNat:=by
 obtain ⟨n,rfl⟩:∃ n:Nat,q = (n:Int):=⟨q.toNat,by omega⟩
 rw [tab_I (by omega),Int.toNat_natCast]
theorem zeroO_tab {n:Nat} {F:Nat → Int}:∀ {l:List Int},(∀ q ∈ l,0 ≤ q ∧ q < (n:Int)) → zeroO l (tab n F) = some (l.any fun q=>decide (F q.toNat = 0))
 | [],_=>rfl
 | q :: l,h=>by
  obtain ⟨h1,h2⟩:=h q (by simp)
  rw [zeroO,if_pos ⟨h1,by rw [tab_length];exact h2⟩,tab_In h1 h2,zeroO_tab fun q hq=>h q (List.mem_cons_of_mem _ hq),List.any_cons]
  by_cases e:F q.toNat = 0
  ·rw [if_pos e,decide_eq_true e];rfl
  ·rw [if_neg e,decide_eq_false e];rfl
def dec (F:Nat → Int) (l:List Int) (q:Nat):Int:=F q - (l.count (q:Int):Int)
theorem dec_nil (F:Nat → Int):dec F [] = F:=funext fun q=>by unfold dec;simp
theorem dec_cons {n:Nat} {F:Nat → Int} {q:Int} {l:List Int} (h0:0 ≤ q) (h1:q < (n:Int)):tab n (dec F (q :: l)) = tab n (dec (fun v=>if v = q.toNat then F q.toNat - 1 else F v) l):=tab_congr fun v hv=>by
 unfold dec
 show F v - _ = (if v = q.toNat then F q.toNat - 1 else F v) - _
 rw [List.count_cons]
 by_cases e:v = q.toNat
 ·have e2:q = (v:Int):=by omega
  rw [if_pos e,e2];simp;omega
 ·have e2:¬ q = (v:Int):=by omega
  rw [if_neg e];simp [e2]
section
variable {p:List Int} {u:List S45} (hok:okNet p u = true) {X F:Nat → Int}
include hok
theorem whole_l2 {x:List Int} {l:List Int} (hl:l.length ≤ 5) (hin:∀ q ∈ l,0 ≤ q ∧ q < (p.length:Int)) {v:List Int × Int}:∀ d j (F:Nat → Int),j + d = l.length → (∀ q,q < p.length → (d:Int) - 10 ≤ F q ∧ F q ≤ 200) → Ev (fun k=>shares_Whole.l0 k u x p u (tab p.length (dec F (l.drop j)))) v → Ev (fun k=>shares_Whole.l2 k u x l (l.length:Int) (j:Int) p u (tab p.length F)) v:=by
 intro d
 induction d with
 | zero =>
  intro j F hj hF hv
  obtain rfl:j = l.length:=by omega
  rw [List.drop_length,dec_nil] at hv
  refine Ev.step (fun k=>?_) hv
  rw [shares_Whole.l2,if_neg (by omega)]
 | succ d ih =>
  intro j F hj hF hv
  have hjl:j < l.length:=by omega
  obtain ⟨h0,h1⟩:=hin _ (List.getElem_mem hjl)
  have hb:=hF l[j].toNat (by omega)
  rw [List.drop_eq_getElem_cons hjl,dec_cons h0 h1] at hv
  have hn:=ih (j + 1) _ (by omega) (fun q hq=>by
   have:=hF q hq
   show (d:Int) - 10 ≤ (if q = l[j].toNat then F l[j].toNat - 1 else F q) ∧ (if q = l[j].toNat then F l[j].toNat - 1 else F q) ≤ 200
   split <;> omega) hv
  refine Ev.step (fun k=>?_) hn
  rw [shares_Whole.l2,if_pos (by omega),if_pos (by omega),if_pos (by omega),rd_get hjl,if_pos h0,if_pos (by rw [tab_length];exact h1),tab_In h0 h1,wrap_succ (by omega),wrap_id (by omega) (by omega),tab_set]
theorem set_one {a:Nat} (ha:a < u.length) (hb:0 ≤ X a ∧ X a ≤ 200):(tab u.length X).set ((a:Nat):Int).toNat (wrap64 (rd (tab u.length X) (a:Int) + 1)) = tab u.length (fun v=>if v = a then X a + 1 else X v):=by
 rw [tab_I ha,wrap_id (by omega) (by omega),tab_set,Int.toNat_natCast]
theorem cmp_wrap {a b:Nat} (ha:a < u.length) (hb:b < u.length) (hX:∀ v,v < u.length → 0 ≤ X v ∧ X v ≤ 200):wrap64 (wrap64 (rd (tab u.length X) (a:Int) + 1) * (rd_T45 u (b:Int)).f0) = (X a + 1) * wI u b:=by
 have h1:=hX a ha
 have h2:=wI_in hok hb
 rw [tab_I ha,wrap_id (x:=X a + 1) (by omega) (by omega)]
 have h3:(X a + 1) * wI u b ≤ 201 * 4:=Int.mul_le_mul (by omega) h2.2 (by omega) (by omega)
 have h4:0 ≤ (X a + 1) * wI u b:=Int.mul_nonneg (by omega) (by omega)
 exact wrap_id (by unfold wI at h4;omega) (by unfold wI at h3;omega)
theorem whole_l1 (hX:∀ v,v < u.length → 0 ≤ X v ∧ X v ≤ 200) {v:List Int × Int}:∀ d i (a:Int),i + d = u.length → PkOk u X F i a → a < (u.length:Int) → (pk u X F d i a < 0 → v = (tab u.length X,0)) → (0 ≤ pk u X F d i a → Ev (fun k=>shares_Whole.l2 k u (tab u.length (fun v=>if v = (pk u X F d i a).toNat then X (pk u X F d i a).toNat + 1 else X v)) (pipesOf u (pk u X F d i a).toNat) ((pipesOf u (pk u X F d i a).toNat).length:Int) 0 p u (tab p.length F)) v) → Ev (fun k=>shares_Whole.l1 k u (tab u.length X) a u (u.length:Int) (i:Int) p u (tab p.length F)) v:=by
 have h6:=(isN hok).u6
 intro d
 induction d with
 | zero =>
  intro i a hi hpk hal h1 h2
  obtain rfl:i = u.length:=by omega
  unfold pk at h1 h2
  by_cases ha:a < 0
  ·refine Ev.step (f:=fun _=>some (tab u.length X,0)) (fun k=>?_) (by rw [h1 ha];exact Ev.now _)
   rw [shares_Whole.l1,if_neg (by omega),if_pos ha]
  ·obtain ⟨n,rfl⟩:∃ n:Nat,a = (n:Int):=⟨a.toNat,by omega⟩
   have hn:n < u.length:=by omega
   have h3:=h2 (by omega)
   rw [Int.toNat_natCast] at h3
   refine Ev.step (fun k=>?_) h3
   rw [shares_Whole.l1,if_neg (by omega),if_neg (by omega),if_pos (by omega),tab_length,if_pos (by omega),if_pos (by omega),set_one hok hn (hX n hn)]
   rfl
 | succ d ih =>
  intro i a hi hpk hal h1 h2
  have hil:i < u.length:=by omega
  rw [pk] at h1 h2
  have hnx:=hpk.next hok hil
  have hal':pkN u X F i a < (u.length:Int):=by
   unfold pkN
   split
   ·exact hal
   ·split
    ·omega
    ·split <;> omega
  have hn:=ih (i + 1) (pkN u X F i a) (by omega) hnx hal' h1 h2
  have hc:contains81.f (rd_T45 u (i:Int)).f1 (tab p.length F) = some (fullB u F i):=by
   have hpl:=pipes_len hok hil
   have:H.fitL (rd_T45 u (i:Int)).f1:=by
    unfold H.fitL
    unfold pipesOf at hpl;omega
   unfold contains81.f
   rw [if_pos this]
   exact zeroO_tab (pipes_in hok hil)
  refine Ev.step (fun k=>by rw [shares_Whole.l1,if_pos (by omega),if_pos (by omega),if_pos (by omega),hc,Option.bind_some,wrap_succ (by omega),tab_length]) ?_
  unfold pkN at hn
  by_cases hf:fullB u F i = true
  ·rw [if_pos hf] at hn
   exact Ev.congr (fun k=>if_pos hf) hn
  ·rw [if_neg hf] at hn
   refine Ev.congr (fun k=>if_neg hf) ?_
   by_cases ha:a < 0
   ·rw [if_pos ha] at hn
    exact Ev.congr (fun k=>if_pos ha) hn
   ·rw [if_neg ha] at hn
    refine Ev.congr (fun k=>if_neg ha) ?_
    obtain ⟨n,rfl⟩:∃ n:Nat,a = (n:Int):=⟨a.toNat,by omega⟩
    have hnl:n < u.length:=by omega
    rw [Int.toNat_natCast] at hn
    refine Ev.congr (fun k=>if_pos (by omega)) (Ev.congr (fun k=>if_pos (by omega)) (Ev.congr (fun k=>if_pos (by omega)) (Ev.congr (fun k=>if_pos (by omega)) ?_)))
    rw [cmp_wrap hok hil hnl hX,cmp_wrap hok hnl hil hX]
    by_cases hlt:(X i + 1) * wI u n < (X n + 1) * wI u i
    ·rw [if_pos hlt] at hn
     exact Ev.congr (fun k=>if_pos hlt) hn
    ·rw [if_neg hlt] at hn
     exact Ev.congr (fun k=>if_neg hlt) hn
end
end Go.Proofs.Ytjohcjfmlhihbaa.P
set_option linter.unusedSectionVars false
namespace Go.Proofs.Ytjohcjfmlhihbaa.P
open Go Go.RowKit Go.Proofs.Ytjohcjfmlhihbaa.G
open Go.Proofs.YtjohcjfmlhihbaaW.PrintWords Go.Proofs.YtjohcjfmlhihbaaW.PrintMore
theorem tab_self (p:List Int):tab p.length (fun q=>rd p (q:Int)) = p:=by
 apply List.ext_getElem
 ·rw [tab_length]
 ·intro i h1 h2
  rw [tab_get,rd_get h2]
end Go.Proofs.Ytjohcjfmlhihbaa.P
namespace Go.Proofs.Ytjohcjfmlhihbaa.G
open Go.RowKit Go.Proofs.YtjohcjfmlhihbaaW.PrintWords Go.Proofs.YtjohcjfmlhihbaaW.PrintLast Go.Proofs.YtjohcjfmlhihbaaW.PrintMore
set_option maxHeartbeats 8000000
set_option maxRecDepth 100000
attribute [local go_sem] cond_true cond_false fld23_0 fld23_1 fld45_0 fld45_1 fld109_0 fld109_1 fld94_0 fld94_1 max2_int min2_int max_two min_two max_three min_three max_four min_four   -- for this text's walks alone
def numnahlaw07_pick.f (l0:List Int) (a1:Int) (a2:Int):Option (Int):=if a1 ≥ (l0.length:Int) then (if a2 = 0 then (none) else (some (Int.tmod (wrap64 (a1 + 1)) a2))) else (if 0 ≤ a1 then (if a1 < (l0.length:Int) then ((numnahlaw07_mod.f (rd l0 a1) a2).bind fun b0=>(some b0)) else (none)) else (none))
theorem numnahlaw07_pick.calls (A0:Option Addr) (c0:Nat) (l0:List Int) (a1:Int) (a2:Int) (r:Int) (w:World) (b7:Kd.C (Kd.int .i64) w A0 l0.length l0) (b8:l0.length ≤ c0) (h:numnahlaw07_pick.f l0 a1 a2 = some r) :
  Calls Try.prog 86 #[.slice A0 l0.length c0,.int .i64 a1,.int .i64 a2] w fun e w'=>e = .returned (.int .i64 r) ∧ Drawn0 w w':=by
 have c1:=Aside0.mk b7
 have d4:=Aside0.mk b8
 clear b7 b8
 have H:(if a1 ≥ (l0.length:Int) then (if a2 = 0 then (none) else (some (Int.tmod (wrap64 (a1 + 1)) a2))) else (if 0 ≤ a1 then (if a1 < (l0.length:Int) then ((numnahlaw07_mod.f (rd l0 a1) a2).bind fun b0=>(some b0)) else (none)) else (none))) = some r:=h
 clear h
 by_cases c4:a1 ≥ (l0.length:Int)
 ·rw [if_pos c4] at H
  have b5:decide ((l0.length:Int) ≤ a1) = true:=decide_eq_true c4
  clear c4
  by_cases c5:a2 = 0
  ·rw [if_pos c5] at H
   exact absurd H (by simp)
  rw [if_neg c5] at H
  have d0:(a2 == 0) = false:=beq_eq_false_iff_ne.mpr c5
  have d1:(a2 != 0) = true:=bne_iff_ne.mpr c5
  obtain rfl:=Option.some.inj H
  go_enter Try.func86,Try.ntmps86
  go_wp2
  go_ret
  exact ⟨by first | rfl | (simp;done) | (simp [*];done),by repeat (first | exact Drawn0.refl _ | apply Drawn0.step)⟩
 rw [if_neg c4] at H
 have b5:decide ((l0.length:Int) ≤ a1) = false:=decide_eq_false c4
 clear c4
 by_cases c6:0 ≤ a1
 case neg =>
  rw [if_neg c6] at H
  exact absurd H (by simp)
 rw [if_pos c6] at H
 have d2:decide (0 ≤ a1) = true:=decide_eq_true c6
 clear c6
 by_cases c7:a1 < (l0.length:Int)
 case neg =>
  rw [if_neg c7] at H
  exact absurd H (by simp)
 rw [if_pos c7] at H
 have d3:decide (a1 < (l0.length:Int)) = true:=decide_eq_true c7
 clear c7
 replace H:=Option.bind_eq_some_iff.mp H
 obtain ⟨b0,b9,H⟩:=H
 replace H:(some b0) = some r:=H
 have A8:=Aside0.mk b9
 clear b9
 obtain rfl:=Option.some.inj H
 have b1:0 ≤ (a1:Int):=of_decide_eq_true (by first | (with_reducible assumption) | assumption)
 have b2:a1 < (l0.length:Int):=of_decide_eq_true (by first | (with_reducible assumption) | assumption)
 obtain ⟨b6,b3,b4⟩:=Kd.at_int c1.out a1 b1 b2
 cases b3
 replace b1:=eq_true b1
 replace b2:=eq_true b2
 go_enter Try.func86,Try.ntmps86
 go_wp2_with (first | ((with_reducible refine gate_callee (f:=29) rfl ?_);refine goesL_ (some 20) rfl rfl Try.func29 (by kernel_rfl) rfl #[.int .i64 (rd l0 a1),.int .i64 a2] rfl (by (try simp only [List.map_toArray,List.map_cons,List.map_nil]);first | done | rfl | (simp only [List.length_drop,List.length_take];rfl)) ?_;(with_reducible refine (numnahlaw07_mod.calls (rd l0 a1) a2 b0 _ A8.out).mono ?_);rintro e w' ⟨rfl,⟨nd,rfl⟩⟩;refine ⟨_,rfl,?_⟩))
 go_ret
 exact ⟨by first | rfl | (simp;done) | (simp [*];done),by repeat (first | exact Drawn0.refl _ | apply Drawn0.step)⟩
end Go.Proofs.Ytjohcjfmlhihbaa.G
namespace Go.Proofs.Ytjohcjfmlhihbaa.G
open Go.RowKit Go.Proofs.YtjohcjfmlhihbaaW.PrintWords Go.Proofs.YtjohcjfmlhihbaaW.PrintLast Go.Proofs.YtjohcjfmlhihbaaW.PrintMore
set_option maxHeartbeats 8000000
set_option maxRecDepth 100000
attribute [local go_sem] cond_true cond_false fld23_0 fld23_1 fld45_0 fld45_1 fld109_0 fld109_1 fld94_0 fld94_1 max2_int min2_int max_two min_two max_three min_three max_four min_four
mutual
def numnahlaw07_plant.l0:Nat → List Int → Int → Int → List Int → Int → Option (List Int × (List (S45)))
 | 0,_,_,_,_,_=>none
 | k + 1,x0,x4,x5,x6,x7=>if x7 < x4 then ((numnahlaw07_pick.f x0 (wrap64 (2 + x7)) 201).bind fun d7=>(if x6.length < 17592186044416 then (numnahlaw07_plant.l0 k x0 x4 x5 (x6 ++ [d7]) (wrap64 (x7 + 1))) else (none))) else (numnahlaw07_plant.l1 k x0 x4 x5 x6 ([]:List (S45)) 0)
def numnahlaw07_plant.l1:Nat → List Int → Int → Int → List Int → List (S45) → Int → Option (List Int × (List (S45)))
 | 0,_,_,_,_,_,_=>none
 | k + 1,x0,x4,x5,x6,x8,x9=>if x9 < x5 then ((numnahlaw07_pick.f x0 (wrap64 ((wrap64 (2 + x4)) + (wrap64 (2 * x9)))) 4).bind fun b3=>(if 0 ≤ x4 then ((numnahlaw07_pick.f x0 (wrap64 ((wrap64 (3 + x4)) + (wrap64 (2 * x9)))) (wrap64 ((shl .i64 1 x4) - 1))).bind fun b9=>(numnahlaw07_plant.l2 k x0 x4 x5 x6 x8 x9 (wrap64 (1 + b9)) 0 (wrap64 (1 + b3)) ([]:List Int))) else (none))) else (some (x6,x8))
def numnahlaw07_plant.l2:Nat → List Int → Int → Int → List Int → List (S45) → Int → Int → Int → Int → List Int → Option (List Int × (List (S45)))
 | 0,_,_,_,_,_,_,_,_,_,_=>none
 | k + 1,x0,x4,x5,x6,x8,x9,n7,i2,d8,d4=>if i2 < x4 then (if 0 ≤ i2 then (if (Int.tmod (shr .i64 n7 i2) 2) = 1 then (if d4.length < 17592186044416 then (numnahlaw07_plant.l2 k x0 x4 x5 x6 x8 x9 n7 (wrap64 (i2 + 1)) d8 (d4 ++ [i2])) else (none)) else (numnahlaw07_plant.l2 k x0 x4 x5 x6 x8 x9 n7 (wrap64 (i2 + 1)) d8 d4)) else (none)) else (if x8.length < 4398046511104 then (numnahlaw07_plant.l1 k x0 x4 x5 x6 (x8 ++ [(⟨d8,d4⟩:S45)]) (wrap64 (x9 + 1))) else (none))
end
def numnahlaw07_plant.f (k:Nat) (l0:List Int):Option (List Int × (List (S45))):=(numnahlaw07_pick.f l0 0 5).bind fun b7=>((numnahlaw07_pick.f l0 1 6).bind fun b6=>(numnahlaw07_plant.l0 k l0 (wrap64 (1 + b7)) (wrap64 (1 + b6)) ([]:List Int) 0))
theorem numnahlaw07_plant.mono_l:∀ k,(∀ y0 y1 y2 y3 y4,LeO (numnahlaw07_plant.l0 k y0 y1 y2 y3 y4) (numnahlaw07_plant.l0 (k + 1) y0 y1 y2 y3 y4)) ∧ (∀ y0 y1 y2 y3 y4 y5,LeO (numnahlaw07_plant.l1 k y0 y1 y2 y3 y4 y5) (numnahlaw07_plant.l1 (k + 1) y0 y1 y2 y3 y4 y5)) ∧ (∀ y0 y1 y2 y3 y4 y5 y6 y7 y8 y9,LeO (numnahlaw07_plant.l2 k y0 y1 y2 y3 y4 y5 y6 y7 y8 y9) (numnahlaw07_plant.l2 (k + 1) y0 y1 y2 y3 y4 y5 y6 y7 y8 y9))
 | 0=>⟨fun _ _ _ _ _ r h=>by simp [numnahlaw07_plant.l0] at h,fun _ _ _ _ _ _ r h=>by simp [numnahlaw07_plant.l1] at h,fun _ _ _ _ _ _ _ _ _ _ r h=>by simp [numnahlaw07_plant.l2] at h⟩
 | k + 1=>by
  obtain ⟨i6,i7,i8⟩:=numnahlaw07_plant.mono_l k
  refine ⟨?_,?_,?_⟩
  ·intro y0 y1 y2 y3 y4
   unfold numnahlaw07_plant.l0
   repeat' first
   | (with_reducible first | exact i6 _ _ _ _ _ | exact i7 _ _ _ _ _ _ | exact i8 _ _ _ _ _ _ _ _ _ _ | exact LeO.refl _ | exact LeO.none _ | refine LeO.ite ?_ ?_ | refine LeO.bind ?_ (fun _=>?_))
   | exact LeO.none _ | refine LeO.ite ?_ ?_ | refine LeO.bind ?_ (fun _=>?_)
  ·intro y0 y1 y2 y3 y4 y5
   unfold numnahlaw07_plant.l1
   repeat' first
   | (with_reducible first | exact i6 _ _ _ _ _ | exact i7 _ _ _ _ _ _ | exact i8 _ _ _ _ _ _ _ _ _ _ | exact LeO.refl _ | exact LeO.none _ | refine LeO.ite ?_ ?_ | refine LeO.bind ?_ (fun _=>?_))
   | exact LeO.none _ | refine LeO.ite ?_ ?_ | refine LeO.bind ?_ (fun _=>?_)
  intro y0 y1 y2 y3 y4 y5 y6 y7 y8 y9
  unfold numnahlaw07_plant.l2
  repeat' first
  | (with_reducible first | exact i6 _ _ _ _ _ | exact i7 _ _ _ _ _ _ | exact i8 _ _ _ _ _ _ _ _ _ _ | exact LeO.refl _ | exact LeO.none _ | refine LeO.ite ?_ ?_ | refine LeO.bind ?_ (fun _=>?_))
  | exact LeO.none _ | refine LeO.ite ?_ ?_ | refine LeO.bind ?_ (fun _=>?_)
theorem numnahlaw07_plant.mono:∀ a0 k,LeO (numnahlaw07_plant.f k a0) (numnahlaw07_plant.f (k + 1) a0):=by
 intro a0 k
 obtain ⟨i6,i7,i8⟩:=numnahlaw07_plant.mono_l k
 unfold numnahlaw07_plant.f
 repeat' first
   | (with_reducible first | exact i6 _ _ _ _ _ | exact i7 _ _ _ _ _ _ | exact i8 _ _ _ _ _ _ _ _ _ _ | exact LeO.refl _ | exact LeO.none _ | refine LeO.ite ?_ ?_ | refine LeO.bind ?_ (fun _=>?_))
   | exact LeO.none _ | refine LeO.ite ?_ ?_ | refine LeO.bind ?_ (fun _=>?_)
theorem numnahlaw07_plant.calls (k:Nat) (A0:Option Addr) (c0:Nat) (l0:List Int) (r1:List Int) (r2:List (S45)) (w:World) (o7:Kd.C (Kd.int .i64) w A0 l0.length l0) (o8:l0.length ≤ c0) (h:numnahlaw07_plant.f k l0 = some (r1,r2)) :
  Calls Try.prog 52 #[.slice A0 l0.length c0] w fun e w'=>∃ n8 o9:Value,e = .returned (.tuple #[n8,o9]) ∧ Kd.R (Kd.int .i64) 3 w' w.heap.size (fun _=>True) n8 r1 ∧ Kd.S k45 45 w' w.heap.size (fun k_=>some k_ ≠ (n8:Value).ownBlock) o9 r2 ∧ Below w.heap.size w w':=by
 have q5:=Try.underlying45
 have i9:=A_ o7
 have j5:=A_ o8
 clear o7 o8
 have HB:=A_ (Below.refl w.heap.size w)
 have H:((numnahlaw07_pick.f l0 0 5).bind fun b7=>((numnahlaw07_pick.f l0 1 6).bind fun b6=>(numnahlaw07_plant.l0 k l0 (wrap64 (1 + b7)) (wrap64 (1 + b6)) ([]:List Int) 0))) = some (r1,r2):=h
 clear h
 replace H:=Option.bind_eq_some_iff.mp H
 obtain ⟨b7,p0,H⟩:=H
 replace H:((numnahlaw07_pick.f l0 1 6).bind fun b6=>(numnahlaw07_plant.l0 k l0 (wrap64 (1 + b7)) (wrap64 (1 + b6)) ([]:List Int) 0)) = some (r1,r2):=H
 have A2:=A_ p0
 clear p0
 replace H:=Option.bind_eq_some_iff.mp H
 obtain ⟨b6,p1,H⟩:=H
 replace H:(numnahlaw07_plant.l0 k l0 (wrap64 (1 + b7)) (wrap64 (1 + b6)) ([]:List Int) 0) = some (r1,r2):=H
 have A3:=A_ p1
 clear p1
 have H':=A_ H
 clear H
 go_enter Try.func52,Try.ntmps52
 go_wp2_with (first | ((with_reducible refine gate_callee (f:=86) rfl ?_);refine gL (some 14) Try.func86 #[.slice A0 l0.length c0,.int .i64 0,.int .i64 5] ?_;(with_reducible refine (numnahlaw07_pick.calls _ _ l0 0 5 b7 _ ?side1 ?side2 A2.out).mono ?_);(case side1=>repeat (first | exact i9.out | (with_reducible refine Kd.C_alloc ?_ _) | (with_reducible refine Kd.C_drewN ?_ _) | (with_reducible refine Kd.C_drew ?_)));(case side2=>exact j5.out);rintro e w' ⟨rfl,⟨nd,rfl⟩⟩;refine ⟨_,rfl,?_⟩) | ((with_reducible refine gate_callee (f:=86) rfl ?_);refine gL (some 17) Try.func86 #[.slice A0 l0.length c0,.int .i64 1,.int .i64 6] ?_;(with_reducible refine (numnahlaw07_pick.calls _ _ l0 1 6 b6 _ ?side1 ?side2 A3.out).mono ?_);(case side1=>repeat (first | exact i9.out | (with_reducible refine Kd.C_alloc ?_ _) | (with_reducible refine Kd.C_drewN ?_ _) | (with_reducible refine Kd.C_drew ?_)));(case side2=>exact j5.out);rintro e w' ⟨rfl,⟨nd,rfl⟩⟩;refine ⟨_,rfl,?_⟩))
 go_loopg [6,7] k (fun kq v6 v7 w'=>∃ (d2:List Int) (e1:Int),v7 = .int .i64 e1 ∧ Aside0 (numnahlaw07_plant.l0 kq l0 (wrap64 (1 + b7)) (wrap64 (1 + b6)) d2 e1 = some (r1,r2)) ∧ Aside0 (kq ≤ k) ∧ Aside0 (Kd.R (Kd.int .i64) 3 w' w.heap.size (fun _=>True) v6 d2) ∧ Aside0 (Below w.heap.size w w'))
 case atStart=>exact ⟨(([]:List Int)),(0),(by first | rfl | (simp;done) | (simp [*];done)),H',⟨Nat.le_refl _⟩,⟨by first | exact Kd.R_nil _ _ _ _ _ | exact Kd.N_nil _ _ _ _ _ | exact Kd.V_nil _ _ _ _ _ | exact Kd.Q_nil _ _ _ _ _ | exact Kd.S_nil _ _ _ _ _⟩,⟨bl HB⟩⟩
 case round =>
  clear H'
  obtain ⟨d2,e1,rfl,HA,h4,d0,HB⟩:=hrel
  cases gk with
  | zero=>exact absurd HA.out (by simp [numnahlaw07_plant.l0])
  | succ k1 =>
   have H:=HA.out
   clear HA
   simp only [numnahlaw07_plant.l0] at H
   by_cases c4:e1 < (wrap64 (1 + b7))
   ·rw [if_pos c4] at H
    have j7:=decide_eq_true c4
    clear c4
    replace H:=Option.bind_eq_some_iff.mp H
    obtain ⟨d7,p2,H⟩:=H
    replace H:(if d2.length < 17592186044416 then (numnahlaw07_plant.l0 k1 l0 (wrap64 (1 + b7)) (wrap64 (1 + b6)) (d2 ++ [d7]) (wrap64 (e1 + 1))) else (none)) = some (r1,r2):=H
    have A5:=A_ p2
    clear p2
    replace H:=gd H
    obtain ⟨c6,H⟩:=H
    have n9:=A_ c6
    clear c6
    obtain ⟨j8,e4⟩:∃ y_:List Int,y_ = (d2 ++ [d7]):=⟨_,rfl⟩
    rw [← e4] at H
    have h5:=A_ e4
    clear e4
    have H':=A_ H
    clear H
    go_wp2_with (first | ((with_reducible refine gate_callee (f:=86) rfl ?_);refine gL (some 28) Try.func86 #[.slice A0 l0.length c0,.int .i64 (wrap64 (2 + e1)),.int .i64 201] ?_;(with_reducible refine (numnahlaw07_pick.calls _ _ l0 (wrap64 (2 + e1)) 201 d7 _ ?side1 ?side2 A5.out).mono ?_);(case side1=>exact cB i9 HB);(case side2=>exact j5.out);rintro e w' ⟨rfl,⟨nd,rfl⟩⟩;refine ⟨_,rfl,?_⟩) | ((with_reducible refine gate_builtin (b:=.append) (xs:=#[.tmp 24,.tmp 29]) rfl ?_);at_builtin;refine Kd.R_append (Kd.int .i64) (w0:=w) w.heap.size rfl (.tmp 24) (.tmp 29) 28 3 (.int .i64 0) 8 rfl Try.underlying28 info3 rfl (by decide) (by omega) u6 d2 d7 [.int .i64 d7] (fun _=>True) (fun _=>False) rfl rfl ?aP (fun _ hk=>hk.elim) ?aF ?aO ?aB ?aS ?aL ?_;(case aP=>exact rfl);(case aB=>exact (bl HB));(case aF=>exact (fun _ _=>trivial));(case aO=>exact (rs d0));(case aS=>exact (below_size (bl HB)));(case aL=>have:=n9.out;omega);intro p3 w7 ho hb hg hat;rw [← h5.out] at ho;have h6:=A_ ho;replace HB:=A_ hb;clear d0;clear ho hb hg hat))
    go_roundg k1
    case measure=>have:=h4.out;omega
    case rel=>exact ⟨(j8),(wrap64 (e1 + 1)),(by first | rfl | (simp;done) | (simp [*];done)),H',⟨by have:=h4.out;omega⟩,⟨by (with_reducible repeat (first | apply Kd.R_alloc | apply Kd.R_drewN | apply Kd.R_drew));exact h6.out⟩,⟨bl HB⟩⟩
   rw [if_neg c4] at H
   have j7:=decide_eq_false c4
   clear c4
   have H':=A_ H
   clear H
   go_wp2
   go_loopg [8,9] k1 (fun kq v8 v9 w'=>∃ (d5:List (S45)) (d1:Int),v9 = .int .i64 d1 ∧ Aside0 (numnahlaw07_plant.l1 kq l0 (wrap64 (1 + b7)) (wrap64 (1 + b6)) d2 d5 d1 = some (r1,r2)) ∧ Aside0 (kq ≤ k1) ∧ Aside0 (Kd.R (Kd.int .i64) 3 w' w.heap.size (fun _=>True) u6 d2) ∧ Aside0 (Kd.S k45 45 w' w.heap.size (fun k_=>some k_ ≠ (u6:Value).ownBlock) v8 d5) ∧ Aside0 (Below w.heap.size w w'))
   case atStart=>exact ⟨(([]:List (S45))),(0),(by first | rfl | (simp;done) | (simp [*];done)),H',⟨Nat.le_refl _⟩,⟨by (with_reducible repeat (first | apply Kd.R_alloc | apply Kd.R_drewN | apply Kd.R_drew));exact d0.out⟩,⟨by first | exact Kd.S_nil _ _ _ _ _ | exact Kd.N_nil _ _ _ _ _ | exact Kd.V_nil _ _ _ _ _ | exact Kd.Q_nil _ _ _ _ _ | exact Kd.R_nil _ _ _ _ _⟩,⟨bl HB⟩⟩
   case round =>
    clear H'
    obtain ⟨d5,d1,rfl,HA,i3,d0,d3,HB⟩:=hrel
    cases gk with
    | zero=>exact absurd HA.out (by simp [numnahlaw07_plant.l1])
    | succ k2 =>
     have H:=HA.out
     clear HA
     simp only [numnahlaw07_plant.l1] at H
     by_cases c8:d1 < (wrap64 (1 + b6))
     case neg =>
      rw [if_neg c8] at H
      have o0:=decide_eq_false c8
      clear c8
      simp only [Option.some.injEq,Prod.mk.injEq] at H
      obtain ⟨rfl,rfl⟩:=H
      go_wp2
      go_ret2
      exact ⟨_,_,by first | rfl | (simp [errW_none,errW_some] <;> rfl) | (simp [*,errW_none,errW_some] <;> rfl),by (with_reducible repeat (first | apply Kd.R_alloc | apply Kd.R_drewN | apply Kd.R_drew));exact d0.out,by (with_reducible repeat (first | apply Kd.S_alloc | apply Kd.S_drewN | apply Kd.S_drew));exact d3.out,bl HB⟩
     rw [if_pos c8] at H
     have o0:=decide_eq_true c8
     clear c8
     replace H:=Option.bind_eq_some_iff.mp H
     obtain ⟨b3,p4,H⟩:=H
     replace H:(if 0 ≤ (wrap64 (1 + b7)) then ((numnahlaw07_pick.f l0 (wrap64 ((wrap64 (3 + (wrap64 (1 + b7)))) + (wrap64 (2 * d1)))) (wrap64 ((shl .i64 1 (wrap64 (1 + b7))) - 1))).bind fun b9=>(numnahlaw07_plant.l2 k2 l0 (wrap64 (1 + b7)) (wrap64 (1 + b6)) d2 d5 d1 (wrap64 (1 + b9)) 0 (wrap64 (1 + b3)) ([]:List Int))) else (none)) = some (r1,r2):=H
     have A9:=A_ p4
     clear p4
     obtain ⟨b8,d6⟩:∃ j_:Int,(wrap64 (1 + b7)) = j_:=⟨_,rfl⟩
     replace H:(if 0 ≤ (b8) then ((numnahlaw07_pick.f l0 (wrap64 ((wrap64 (3 + (b8))) + (wrap64 (2 * d1)))) (wrap64 ((shl .i64 1 (b8)) - 1))).bind fun b9=>(numnahlaw07_plant.l2 k2 l0 (b8) (wrap64 (1 + b6)) d2 d5 d1 (wrap64 (1 + b9)) 0 (wrap64 (1 + b3)) ([]:List Int))) else (none)) = some (r1,r2):=by first | (rw [d6] at H;exact H) | (simp only [d6] at H ⊢;exact H)
     (try rw [d6] at j7)
     (try rw [d6] at A9)
     have hji10w:(IntKind.i64.wrap (1 + b7)) = b8:=(i64_w _).trans d6
     replace H:=gd H
     obtain ⟨o1,H⟩:=H
     have p5:=eq_true o1
     have p6:=decide_eq_true o1
     clear o1
     obtain ⟨e0,d9⟩:∃ j_:Int,(shl .i64 1 (b8)) = j_:=⟨_,rfl⟩
     replace H:((numnahlaw07_pick.f l0 (wrap64 ((wrap64 (3 + (b8))) + (wrap64 (2 * d1)))) (wrap64 ((e0) - 1))).bind fun b9=>(numnahlaw07_plant.l2 k2 l0 (b8) (wrap64 (1 + b6)) d2 d5 d1 (wrap64 (1 + b9)) 0 (wrap64 (1 + b3)) ([]:List Int))) = some (r1,r2):=by first | (rw [d9] at H;exact H) | (simp only [d9] at H ⊢;exact H)
     (try rw [d9] at A9)
     have e8:(IntKind.i64.wrap (1 * 2 ^ min (b8).toNat 64)) = e0:=d9
     have hji12z:(b8) ≤ 64 → (IntKind.i64.wrap (1 * 2 ^ (b8).toNat)) = e0:=shl_small d9
     have hji12u:(IntKind.i64.wrap (2 ^ min (b8).toNat 64)) = e0:=by have h_:=e8;rw [Int.one_mul] at h_;exact h_
     have hji12v:(b8) ≤ 64 → (IntKind.i64.wrap (2 ^ (b8).toNat)) = e0:=fun hle_=>by have h_:=hji12z hle_;rw [Int.one_mul] at h_;exact h_
     have hji12y:(wrap64 (1 * 2 ^ min (b8).toNat 64)) = e0:=(i64_w _).symm.trans e8
     have hji12x:(b8) ≤ 64 → (wrap64 (1 * 2 ^ (b8).toNat)) = e0:=fun h_=>(i64_w _).symm.trans (hji12z h_)
     replace H:=Option.bind_eq_some_iff.mp H
     obtain ⟨b9,j9,H⟩:=H
     replace H:(numnahlaw07_plant.l2 k2 l0 (b8) (wrap64 (1 + b6)) d2 d5 d1 (wrap64 (1 + b9)) 0 (wrap64 (1 + b3)) ([]:List Int)) = some (r1,r2):=H
     have q6:=A_ j9
     clear j9
     have H':=A_ H
     clear H
     go_wp2_with (first | ((with_reducible refine gate_callee (f:=86) rfl ?_);refine goesL_ (some 42) rfl rfl Try.func86 (by kernel_rfl) rfl #[.slice A0 l0.length c0,.int .i64 (wrap64 ((wrap64 (2 + (b8))) + (wrap64 (2 * d1)))),.int .i64 4] rfl (by (try simp only [List.map_toArray,List.map_cons,List.map_nil]);first | done | (simp only [d6];rfl) | rfl | (simp only [List.length_drop,List.length_take];rfl)) ?_;(with_reducible refine (numnahlaw07_pick.calls _ _ l0 (wrap64 ((wrap64 (2 + (b8))) + (wrap64 (2 * d1)))) 4 b3 _ ?side1 ?side2 A9.out).mono ?_);(case side1=>exact cB i9 HB);(case side2=>exact j5.out);rintro e w' ⟨rfl,⟨nd,rfl⟩⟩;refine ⟨_,rfl,?_⟩;(try (rw [drewN_self wr];generalize hq_:World.drewN wr _ = wr;replace d0:Aside0 (Kd.R (Kd.int .i64) 3 wr w.heap.size (fun _=>True) u6 d2):=⟨by rw [← hq_];exact (rs d0)⟩;replace d3:Aside0 (Kd.S k45 45 wr w.heap.size (fun k_=>some k_ ≠ (u6:Value).ownBlock) u8 d5):=⟨by rw [← hq_];exact (by (with_reducible repeat (first | apply Kd.S_alloc | apply Kd.S_drewN | apply Kd.S_drew));exact d3.out)⟩;replace HB:Aside0 (Below w.heap.size w wr):=⟨by rw [← hq_];exact (bl HB)⟩;clear hq_))) | ((with_reducible refine gate_dst (N:=10) rfl ?_);refine bx 10 #[.int .i64 0,.slice none 0 0] 45 ?_;intro b2 hg p7 hbox hb;have b1:=A_ hbox;have h7:=gw hg HB;have o2:=h7;replace d0:=rB d0 hb;replace d3:=A_ (Kd.S_below (Kd.S_elderB (by (with_reducible repeat (first | apply Kd.S_alloc | apply Kd.S_drewN | apply Kd.S_drew));exact d3.out) b2 (Nat.le_of_eq hg.symm)) hb);replace HB:=bB HB hb;clear hb hbox hg;have m1:p7.cell? ⟨b2,0,none⟩ = some (.int .i64 0):=cz b1 0;have m2:p7.cell? ⟨b2,1,none⟩ = some (.slice none 0 0):=cz b1 1;have m3:=blk_frozen b1.out 0;have m4:=blk_frozen b1.out 1) | ((with_reducible refine gate_callee (f:=86) rfl ?_);refine goesL_ (some 54) rfl rfl Try.func86 (by kernel_rfl) rfl #[.slice A0 l0.length c0,.int .i64 (wrap64 ((wrap64 (3 + (b8))) + (wrap64 (2 * d1)))),.int .i64 (wrap64 ((e0) - 1))] rfl (by (try simp only [List.map_toArray,List.map_cons,List.map_nil]);first | done | (simp only [d6,d9];rfl) | rfl | (simp only [List.length_drop,List.length_take];rfl)) ?_;(with_reducible refine (numnahlaw07_pick.calls _ _ l0 (wrap64 ((wrap64 (3 + (b8))) + (wrap64 (2 * d1)))) (wrap64 ((e0) - 1)) b9 _ ?side1 ?side2 q6.out).mono ?_);(case side1=>exact Kd.C_below i9.out (bl HB));(case side2=>exact j5.out);rintro e w' ⟨rfl,⟨nd,rfl⟩⟩;refine ⟨_,rfl,?_⟩))
     go_loopg [12] k2 (fun kq q7 w'=>∃ (c1:Int) (b0:List Int) (b4:Value),q7 = .int .i64 c1 ∧ Aside0 (numnahlaw07_plant.l2 kq l0 (b8) (wrap64 (1 + b6)) d2 d5 d1 (wrap64 (1 + b9)) c1 (wrap64 (1 + b3)) b0 = some (r1,r2)) ∧ Aside0 (kq ≤ k2) ∧ Aside0 (Kd.R (Kd.int .i64) 3 w' w.heap.size (fun k_=>some k_ ≠ (b4:Value).ownBlock) u6 d2) ∧ Aside0 (Kd.S k45 45 w' w.heap.size (fun k_=>some k_ ≠ (u6:Value).ownBlock ∧ some k_ ≠ (b4:Value).ownBlock ∧ k_ ≠ b2) u8 d5) ∧ Aside0 (Kd.R (Kd.int .i64) 3 w' w.heap.size (fun k_=>some k_ ≠ (u6:Value).ownBlock) b4 b0) ∧ Aside0 (w'.heap[b2]? = some (.cells #[.int .i64 (wrap64 (1 + b3)),b4] 45 (0,0))) ∧ Aside0 (Below w.heap.size w w'))
     case atStart=>exact ⟨(0),(([]:List Int)),(.slice none 0 0),(by first | rfl | (simp;done) | (simp [*];done)),H',⟨Nat.le_refl _⟩,⟨by (with_reducible repeat (first | apply Kd.R_alloc | apply Kd.R_drewN | apply Kd.R_drew));exact Kd.R_mono (Kd.R_far (p:=⟨b2,1,none⟩) (Kd.R_far (p:=⟨b2,0,none⟩) (Kd.R_types d0.out b1.out (by decide)) (fun _ hk=>hk.2) (.int .i64 (wrap64 (1 + b3)))) (fun _ hk=>hk.2) (.slice none 0 0)) (fun _ hk=>(by simp [Value.ownBlock]))⟩,⟨by (with_reducible repeat (first | apply Kd.S_alloc | apply Kd.S_drewN | apply Kd.S_drew));exact Kd.S_mono (Kd.S_far (p:=⟨b2,1,none⟩) (Kd.S_far (p:=⟨b2,0,none⟩) (Kd.S_mono d3.out (fun k_ hk=>(⟨hk,hk.2⟩:_ ∧ k_ ≠ b2))) (fun _ hk=>hk.2) (.int .i64 (wrap64 (1 + b3)))) (fun _ hk=>hk.2) (.slice none 0 0)) (fun _ hk=>⟨hk.1.1,⟨(by simp [Value.ownBlock]),hk.1.2⟩⟩)⟩,⟨by first | exact Kd.R_nil _ _ _ _ _ | exact Kd.N_nil _ _ _ _ _ | exact Kd.V_nil _ _ _ _ _ | exact Kd.Q_nil _ _ _ _ _ | exact Kd.S_nil _ _ _ _ _⟩,⟨by (with_reducible repeat (first | refine blk_drewN ?_ _ | refine blk_drew ?_ | refine blk_alloc ?_ _));refine blk_put (cs:=#[.int .i64 (wrap64 (1 + b3)),.slice none 0 0]) ?_ 1 _ rfl;(with_reducible repeat (first | refine blk_drewN ?_ _ | refine blk_drew ?_ | refine blk_alloc ?_ _));refine blk_put (cs:=#[.int .i64 0,.slice none 0 0]) ?_ 0 _ rfl;(with_reducible repeat (first | refine blk_drewN ?_ _ | refine blk_drew ?_ | refine blk_alloc ?_ _));exact b1.out⟩,⟨bl HB⟩⟩
     case round =>
      clear H'
      obtain ⟨c1,b0,b4,rfl,HA,i4,d0,d3,b5,b1,HB⟩:=hrel
      cases gk with
      | zero=>exact absurd HA.out (by simp [numnahlaw07_plant.l2])
      | succ k3 =>
       have H:=HA.out
       clear HA
       simp only [numnahlaw07_plant.l2] at H
       by_cases i5:c1 < (b8)
       case neg =>
        rw [if_neg i5] at H
        have l5:=decide_eq_false i5
        clear i5
        replace H:=gd H
        obtain ⟨p8,H⟩:=H
        have l6:=A_ p8
        clear p8
        obtain ⟨l7,e5⟩:∃ y_:List (S45),y_ = (d5 ++ [(⟨(wrap64 (1 + b3)),b0⟩:S45)]):=⟨_,rfl⟩
        rw [← e5] at H
        have h8:=A_ e5
        clear e5
        have H':=A_ H
        clear H
        have m5:wr.cell? ⟨b2,0,none⟩ = some (.int .i64 (wrap64 (1 + b3))):=cz b1 0
        have m6:wr.cell? ⟨b2,1,none⟩ = some (b4):=cz b1 1
        have m7:=blk_frozen b1.out 0
        have m8:=blk_frozen b1.out 1
        obtain ⟨h0,h1,o3⟩:=Kd.R_slice b5.out
        subst o3
        go_wp2_with (first | ((with_reducible refine gate_builtin (b:=.append) (xs:=#[.tmp 72,.tmp 74]) rfl ?_);at_builtin;refine Kd.S_append k45 (w0:=w) w.heap.size rfl (.tmp 72) (.tmp 74) 43 45 (.agg #[(.int .i64 0),(.slice none 0 0)]) 32 rfl Try.underlying43 info45 rfl (by decide) (by omega) u8 d5 (⟨(wrap64 (1 + b3)),b0⟩:S45) [.int .i64 (wrap64 (1 + b3)),.slice h0 b0.length h1] (fun k_=>some k_ ≠ (u6:Value).ownBlock ∧ k_ ≠ b2) (fun k_=>some k_ = (.slice h0 b0.length h1:Value).ownBlock) rfl rfl ?aP (fun k_ hk_=>((Kd.R_mono (ok':=fun k_=>((fun k_=>some k_ ≠ (u6:Value).ownBlock ∧ k_ ≠ b2)) k_ ∧ some k_ ≠ (u8:Value).ownBlock) (Kd.R_types (Kd.R_apart' (b5.out) (Kd.S_typed d3.out) (by decide)) b1.out (by decide)) (fun k_ hk=>⟨⟨hk.1.1,hk.2⟩,hk.1.2⟩))).1 k_ hk_.symm) ?aF ?aO ?aB ?aS ?aL ?_;(case aP=>exact k45_mkM _ _ _ (⟨(wrap64 (1 + b3)),b0⟩:S45) (Kd.R_mono (Kd.R_tight rfl (Kd.R_mono (ok':=fun k_=>((fun k_=>some k_ ≠ (u6:Value).ownBlock ∧ k_ ≠ b2)) k_ ∧ some k_ ≠ (u8:Value).ownBlock) (Kd.R_types (Kd.R_apart' (b5.out) (Kd.S_typed d3.out) (by decide)) b1.out (by decide)) (fun k_ hk=>⟨⟨hk.1.1,hk.2⟩,hk.1.2⟩))) (fun _ h_=>h_)));(case aB=>exact (bl HB));(case aF=>exact (fun k_ hk=>⟨Kd.fresh' (Kd.R_lt (rs d0)) k_ hk,Kd.freshB (g:=b2) (o:=.cells #[.int .i64 (wrap64 (1 + b3)),.slice h0 b0.length h1] 45 (0,0)) (kb b1) k_ hk⟩));(case aO=>exact (by (with_reducible repeat (first | apply Kd.S_alloc | apply Kd.S_drewN | apply Kd.S_drew));exact Kd.S_mono d3.out (fun k_ hk=>⟨⟨hk.1,hk.2.2⟩,fun e_=>hk.2.1 e_⟩)));(case aS=>exact (below_size (bl HB)));(case aL=>have:=l6.out;omega);intro p9 q8 ho hb hg hat;rw [← h8.out] at ho;have h9:=A_ ho;replace d0:=A_ (Kd.R_over' (rs d0) (Kd.S_typed (by (with_reducible repeat (first | apply Kd.S_alloc | apply Kd.S_drewN | apply Kd.S_drew));exact d3.out)) (by decide) hg);replace b1:=A_ (blk_grown (g:=b2) (o:=.cells #[.int .i64 (wrap64 (1 + b3)),.slice h0 b0.length h1] 45 (0,0)) (kb b1) hg (Kd.S_away d3.out (fun _ hk=>hk.2.2)));replace HB:=A_ hb;clear d3 b5;clear ho hb hg hat))
        (try simp only [← d6] at H' ⊢)
        go_roundg k3
        case measure=>have:=h4.out;have:=i3.out;have:=i4.out;omega
        case rel=>exact ⟨(l7),(wrap64 (d1 + 1)),(by first | rfl | (simp;done) | (simp [*];done)),H',⟨by have:=h4.out;have:=i3.out;have:=i4.out;omega⟩,⟨by (with_reducible repeat (first | apply Kd.R_alloc | apply Kd.R_drewN | apply Kd.R_drew));exact Kd.R_mono d0.out (fun _ hk=>trivial)⟩,⟨by (with_reducible repeat (first | apply Kd.S_alloc | apply Kd.S_drewN | apply Kd.S_drew));exact Kd.S_mono h9.out (fun _ hk=>hk.1)⟩,⟨bl HB⟩⟩
       rw [if_pos i5] at H
       have l5:=decide_eq_true i5
       clear i5
       replace H:=gd H
       obtain ⟨o4,H⟩:=H
       have q0:=eq_true o4
       have q1:=decide_eq_true o4
       clear o4
       obtain ⟨e2,e7⟩:∃ j_:Int,(shr .i64 (wrap64 (1 + b9)) c1) = j_:=⟨_,rfl⟩
       replace H:(if (Int.tmod (e2) 2) = 1 then (if b0.length < 17592186044416 then (numnahlaw07_plant.l2 k3 l0 (b8) (wrap64 (1 + b6)) d2 d5 d1 (wrap64 (1 + b9)) (wrap64 (c1 + 1)) (wrap64 (1 + b3)) (b0 ++ [c1])) else (none)) else (numnahlaw07_plant.l2 k3 l0 (b8) (wrap64 (1 + b6)) d2 d5 d1 (wrap64 (1 + b9)) (wrap64 (c1 + 1)) (wrap64 (1 + b3)) b0)) = some (r1,r2):=by first | (rw [e7] at H;exact H) | (simp only [e7] at H ⊢;exact H)
       have o5:((wrap64 (1 + b9)) / 2 ^ min c1.toNat 64) = e2:=e7
       have hji18z:c1 ≤ 64 → ((wrap64 (1 + b9)) / 2 ^ c1.toNat) = e2:=shr_small e7
       by_cases i0:(Int.tmod (e2) 2) = 1
       case neg =>
        rw [if_neg i0] at H
        have l8:((Int.tmod (e2) 2) == 1) = false:=beq_eq_false_iff_ne.mpr i0
        have l9:((Int.tmod (e2) 2) != 1) = true:=bne_iff_ne.mpr i0
        have H':=A_ H
        clear H
        go_wp2
        go_roundg k3
        case measure=>have:=h4.out;have:=i3.out;have:=i4.out;omega
        case rel=>exact ⟨(wrap64 (c1 + 1)),(b0),(b4),(by first | rfl | (simp;done) | (simp [*];done)),H',⟨by have:=h4.out;have:=i3.out;have:=i4.out;omega⟩,⟨by (with_reducible repeat (first | apply Kd.R_alloc | apply Kd.R_drewN | apply Kd.R_drew));exact d0.out⟩,⟨by (with_reducible repeat (first | apply Kd.S_alloc | apply Kd.S_drewN | apply Kd.S_drew));exact d3.out⟩,⟨by (with_reducible repeat (first | apply Kd.R_alloc | apply Kd.R_drewN | apply Kd.R_drew));exact b5.out⟩,⟨by (with_reducible repeat (first | refine blk_drewN ?_ _ | refine blk_drew ?_ | refine blk_alloc ?_ _));exact b1.out⟩,⟨bl HB⟩⟩
       rw [if_pos i0] at H
       have l8:((Int.tmod (e2) 2) == 1) = true:=beq_iff_eq.mpr i0
       have l9:((Int.tmod (e2) 2) != 1) = false:=bne_eq_false_iff_eq.mpr i0
       clear i0
       replace H:=gd H
       obtain ⟨q2,H⟩:=H
       have m0:=A_ q2
       clear q2
       obtain ⟨e3,e6⟩:∃ y_:List Int,y_ = (b0 ++ [c1]):=⟨_,rfl⟩
       rw [← e6] at H
       have i1:=A_ e6
       clear e6
       have H':=A_ H
       clear H
       have m9:wr.cell? ⟨b2,0,none⟩ = some (.int .i64 (wrap64 (1 + b3))):=cz b1 0
       have n0:wr.cell? ⟨b2,1,none⟩ = some (b4):=cz b1 1
       have n1:=blk_frozen b1.out 0
       have n2:=blk_frozen b1.out 1
       go_wp2_with (first | ((with_reducible refine gate_builtin (b:=.append) (xs:=#[.tmp 67,.tmp 69]) rfl ?_);at_builtin;refine Kd.R_append (Kd.int .i64) (w0:=w) w.heap.size rfl (.tmp 67) (.tmp 69) 28 3 (.int .i64 0) 8 rfl Try.underlying28 info3 rfl (by decide) (by omega) b4 b0 c1 [.int .i64 c1] (fun k_=>some k_ ≠ (u6:Value).ownBlock) (fun _=>False) rfl rfl ?aP (fun _ hk=>hk.elim) ?aF ?aO ?aB ?aS ?aL ?_;(case aP=>exact rfl);(case aB=>exact (bl HB));(case aF=>exact (fun k_ hk=>Kd.fresh' (Kd.R_lt (rs d0)) k_ hk));(case aO=>exact (rs b5));(case aS=>exact (below_size (bl HB)));(case aL=>have:=m0.out;omega);intro q3 q4 ho hb hg hat;rw [← i1.out] at ho;have e9:=A_ ho;replace d0:=A_ (Kd.R_after (ok:=(fun _=>True)) (by (with_reducible repeat (first | apply Kd.R_alloc | apply Kd.R_drewN | apply Kd.R_drew));exact Kd.R_mono d0.out (fun _ hk=>⟨trivial,hk⟩)) hg hat);replace d3:=A_ (Kd.S_after (ok:=(fun k_=>some k_ ≠ (u6:Value).ownBlock ∧ k_ ≠ b2)) (by (with_reducible repeat (first | apply Kd.S_alloc | apply Kd.S_drewN | apply Kd.S_drew));exact Kd.S_mono d3.out (fun _ hk=>⟨⟨hk.1,hk.2.2⟩,hk.2.1⟩)) hg hat);replace b1:=A_ (blk_grown (g:=b2) (o:=.cells #[.int .i64 (wrap64 (1 + b3)),b4] 45 (0,0)) (kb b1) hg (Kd.R_ne b5.out b1.out (by decide)));replace HB:=A_ hb;clear b5;clear ho hb hg hat;obtain ⟨h2,h3,o6⟩:=Kd.R_slice e9.out;subst o6;have n3:q4.cell? ⟨b2,0,none⟩ = some (.int .i64 (wrap64 (1 + b3))):=cz b1 0;have n4:q4.cell? ⟨b2,1,none⟩ = some (b4):=cz b1 1;have n5:=blk_frozen b1.out 0;have n6:=blk_frozen b1.out 1))
       go_roundg k3
       case measure=>have:=h4.out;have:=i3.out;have:=i4.out;omega
       case rel=>exact ⟨(wrap64 (c1 + 1)),(e3),(.slice h2 e3.length h3),(by first | rfl | (simp;done) | (simp [*];done)),H',⟨by have:=h4.out;have:=i3.out;have:=i4.out;omega⟩,⟨by (with_reducible repeat (first | apply Kd.R_alloc | apply Kd.R_drewN | apply Kd.R_drew));exact Kd.R_mono (Kd.R_far (p:=⟨b2,1,none⟩) (Kd.R_types d0.out b1.out (by decide)) (fun _ hk=>hk.2) (.slice h2 e3.length h3)) (fun _ hk=>hk.1.2)⟩,⟨by (with_reducible repeat (first | apply Kd.S_alloc | apply Kd.S_drewN | apply Kd.S_drew));exact Kd.S_mono (Kd.S_far (p:=⟨b2,1,none⟩) (Kd.S_mono d3.out (fun k_ hk=>(⟨hk,hk.1.2⟩:_ ∧ k_ ≠ b2))) (fun _ hk=>hk.2) (.slice h2 e3.length h3)) (fun _ hk=>⟨hk.1.1.1,⟨hk.1.2,hk.1.1.2⟩⟩)⟩,⟨by (with_reducible repeat (first | apply Kd.R_alloc | apply Kd.R_drewN | apply Kd.R_drew));exact Kd.R_mono (Kd.R_far (p:=⟨b2,1,none⟩) (Kd.R_types e9.out b1.out (by decide)) (fun _ hk=>hk.2) (.slice h2 e3.length h3)) (fun _ hk=>hk.1)⟩,⟨by (with_reducible repeat (first | refine blk_drewN ?_ _ | refine blk_drew ?_ | refine blk_alloc ?_ _));refine blk_put (cs:=#[.int .i64 (wrap64 (1 + b3)),b4]) ?_ 1 _ rfl;(with_reducible repeat (first | refine blk_drewN ?_ _ | refine blk_drew ?_ | refine blk_alloc ?_ _));exact b1.out⟩,⟨bl HB⟩⟩
end Go.Proofs.Ytjohcjfmlhihbaa.G
set_option linter.unusedSectionVars false
namespace Go.Proofs.Ytjohcjfmlhihbaa.P
open Go Go.RowKit Go.Proofs.Ytjohcjfmlhihbaa.G
open Go.Proofs.YtjohcjfmlhihbaaW.PrintWords Go.Proofs.YtjohcjfmlhihbaaW.PrintMore
theorem pick_some (l:List Int) (a:Nat) (ha:a < 1000000) {n:Int} (h0:0 < n) (h1:n ≤ 9223372036854775807):∃ m,0 ≤ m ∧ m < n ∧ numnahlaw07_pick.f l (a:Int) n = some m:=by
 unfold numnahlaw07_pick.f
 by_cases h:(a:Int) ≥ (l.length:Int)
 ·rw [if_pos h,if_neg (by omega),wrap_id (by omega) (by omega),Int.tmod_eq_emod_of_nonneg (by omega)]
  exact ⟨_,Int.emod_nonneg _ (by omega),Int.emod_lt_of_pos _ h0,rfl⟩
 ·obtain ⟨m,m0,m1,e⟩:=mod_some (rd l (a:Int)) h0 h1
  rw [if_neg h,if_pos (by omega),if_pos (by omega),e]
  exact ⟨m,m0,m1,rfl⟩
theorem wrap_pl {c n i:Nat} (hc:c ≤ 10) (hn:n ≤ 10) (hi:i ≤ 1000):wrap64 (wrap64 ((c:Int) + (n:Int)) + wrap64 (2 * (i:Int))) = ((c + n + 2 * i:Nat):Int):=by
 have h1:wrap64 ((c:Int) + (n:Int)) = (c:Int) + (n:Int):=wrap_id (by omega) (by omega)
 have h2:wrap64 (2 * (i:Int)) = 2 * (i:Int):=wrap_id (by omega) (by omega)
 rw [h1,h2]
 clear h1 h2
 rw [wrap_id (by omega) (by omega)]
 omega
theorem wrap_one {a:Int} (h0:0 ≤ a) (h1:a ≤ 1000):wrap64 (1 + a) = 1 + a:=wrap_id (by omega) (by omega)
def bitB (s:Int) (j:Nat):Bool:=decide (Int.tmod (shr .i64 s (j:Int)) 2 = 1)
def bits (s:Int) (i:Nat):List Nat:=(List.range i).filter (bitB s)
theorem bits_succ (s:Int) (i:Nat):bits s (i + 1) = if bitB s i = true then bits s i ++ [i] else bits s i:=by
 unfold bits
 rw [List.range_succ,List.filter_append]
 by_cases h:bitB s i = true
 ·rw [if_pos h,List.filter_cons_of_pos h];rfl
 ·rw [if_neg h,List.filter_cons_of_neg h];simp
theorem bits_some:∀ (n:Fin 6) (s:Fin 32),1 ≤ s.val → s.val < 2 ^ n.val → bits (s.val:Int) n.val ≠ []:=by decide +kernel
theorem bits_len (s:Int) (i:Nat):(bits s i).length ≤ i:=by
 have:=List.length_filter_le (bitB s) (List.range i)
 rwa [List.length_range] at this
theorem bits_ok {s:Int} {n:Nat}:allF (okAt n ((bits s n).map Int.ofNat)) ((bits s n).map Int.ofNat).length 0 = true:=by
 rw [allF_iff]
 intro j _ hj
 have hjl:j < (bits s n).length:=by rw [List.length_map] at hj;omega
 have hg:∀ i (h:i < (bits s n).length),rd ((bits s n).map Int.ofNat) (i:Int) = ((bits s n)[i]:Int):=fun i h=>by
  rw [rd_get (by rw [List.length_map];exact h),List.getElem_map];rfl
 unfold okAt
 simp only [Bool.and_eq_true,Bool.or_eq_true,decide_eq_true_eq]
 have hm:(bits s n)[j] ∈ bits s n:=List.getElem_mem _
 have hr:=List.mem_range.1 (List.mem_filter.1 (show (bits s n)[j] ∈ (List.range n).filter (bitB s) from hm)).1
 rw [hg j hjl]
 refine ⟨⟨by omega,by omega⟩,?_⟩
 by_cases e:j = 0
 ·exact .inl e
 ·right
  have hp:(bits s n).Pairwise (· < ·):=List.Pairwise.filter _ List.pairwise_lt_range
  have:=List.pairwise_iff_getElem.1 hp (j - 1) j (by omega) hjl (by omega)
  rw [hg (j - 1) (by omega)]
  omega
theorem bits_any {n s:Nat} (hn:n ≤ 5) (h1:1 ≤ s) (h2:s < 2 ^ n):bits (s:Int) n ≠ []:=by
 have h3:s < 32:=Nat.lt_of_lt_of_le h2 (Nat.le_trans (Nat.pow_le_pow_right (by decide) hn) (by decide))
 exact bits_some ⟨n,by omega⟩ ⟨s,h3⟩ h1 h2
theorem shl_P {n:Nat} (h:1 ≤ n ∧ n ≤ 5):∃ P:Nat,2 ^ n = P ∧ 2 ≤ P ∧ P ≤ 32 ∧ wrap64 (shl .i64 1 (n:Int) - 1) = (P:Int) - 1:=by
 rcases (by omega:n = 1 ∨ n = 2 ∨ n = 3 ∨ n = 4 ∨ n = 5) with rfl | rfl | rfl | rfl | rfl
 ·exact ⟨2,by decide,by decide,by decide,by decide +kernel⟩
 ·exact ⟨4,by decide,by decide,by decide,by decide +kernel⟩
 ·exact ⟨8,by decide,by decide,by decide,by decide +kernel⟩
 ·exact ⟨16,by decide,by decide,by decide,by decide +kernel⟩
 ·exact ⟨32,by decide,by decide,by decide,by decide +kernel⟩
section
variable {l:List Int} {n m:Nat} (hn:1 ≤ n ∧ n ≤ 5) (hm:1 ≤ m ∧ m ≤ 6)
include hn hm
structure PlU (n:Nat) (u:List S45):Prop where
 wt:∀ a ∈ u,1 ≤ a.f0 ∧ a.f0 ≤ 4
 pipes:∀ a ∈ u,∃ s:Int,a.f1 = (bits s n).map Int.ofNat ∧ bits s n ≠ []
theorem plant_l2 {pp:List Int} {u:List S45} {iu:Nat} {s w:Int} (hu:u.length ≤ 6) {v:List Int × List S45} (hv:Ev (fun k=>numnahlaw07_plant.l1 k l (n:Int) (m:Int) pp (u ++ [⟨w,(bits s n).map Int.ofNat⟩]) ((iu + 1:Nat):Int)) v) (hiu:iu < 1000):∀ d i,i + d = n → Ev (fun k=>numnahlaw07_plant.l2 k l (n:Int) (m:Int) pp u (iu:Int) s (i:Int) w ((bits s i).map Int.ofNat)) v:=by
 intro d
 induction d with
 | zero =>
  intro i hi
  obtain rfl:i = n:=by omega
  refine Ev.step (fun k=>?_) hv
  rw [numnahlaw07_plant.l2,if_neg (by omega),if_pos (by omega),wrap_succ (by omega)]
 | succ d ih =>
  intro i hi
  have hnx:=ih (i + 1) (by omega)
  rw [bits_succ] at hnx
  by_cases hb:bitB s i = true
  ·rw [if_pos hb,List.map_append] at hnx
   refine Ev.step (fun k=>?_) hnx
   rw [numnahlaw07_plant.l2,if_pos (by omega),if_pos (by omega),if_pos (of_decide_eq_true hb),if_pos (by rw [List.length_map];have:=bits_len s i;omega),wrap_succ (by omega)];rfl
  ·rw [if_neg hb] at hnx
   refine Ev.step (fun k=>?_) hnx
   rw [numnahlaw07_plant.l2,if_pos (by omega),if_pos (by omega),if_neg (fun h=>hb (decide_eq_true h)),wrap_succ (by omega)]
theorem plant_l1 {pp:List Int}:∀ d i (u:List S45),i + d = m → u.length = i → PlU n u → ∃ u',u'.length = m ∧ PlU n u' ∧ Ev (fun k=>numnahlaw07_plant.l1 k l (n:Int) (m:Int) pp u (i:Int)) (pp,u'):=by
 intro d
 induction d with
 | zero =>
  intro i u hi hu hP
  refine ⟨u,by omega,hP,Ev.step (f:=fun _=>some (pp,u)) (fun k=>?_) (Ev.now _)⟩
  rw [numnahlaw07_plant.l1,if_neg (by omega)]
 | succ d ih =>
  intro i u hi hu hP
  obtain ⟨a,a0,a1,ha⟩:=pick_some l (2 + n + 2 * i) (by omega) (n:=4) (by decide) (by decide)
  have e4:Unit → wrap64 (1 + a) = 1 + a:=fun _=>wrap_one a0 (by omega)
  have e1:=fun _:Unit=>wrap_pl (c:=2) (n:=n) (i:=i) (by decide) (by omega) (by omega)
  have e2:=fun _:Unit=>wrap_pl (c:=3) (n:=n) (i:=i) (by decide) (by omega) (by omega)
  obtain ⟨P2,hP2,s2,s3,s1⟩:=shl_P hn
  replace s1:=fun _:Unit=>s1
  obtain ⟨b,b0,b1,hb⟩:=pick_some l (3 + n + 2 * i) (by omega) (n:=(P2:Int) - 1) (by omega) (by omega)
  have hs:bits (1 + b) n ≠ []:=by
   obtain ⟨s,hs⟩:∃ s:Nat,1 + b = (s:Int):=⟨(1 + b).toNat,by omega⟩
   rw [hs]
   exact bits_any hn.2 (by omega) (by rw [hP2];omega)
  obtain ⟨u',h1,h2,h3⟩:=ih (i + 1) (u ++ [⟨1 + a,(bits (1 + b) n).map Int.ofNat⟩]) (by omega) (by rw [List.length_append,hu];rfl) ⟨fun c hc=>by
   rcases List.mem_append.1 hc with hc | hc
   ·exact hP.wt c hc
   ·rw [List.mem_singleton.1 hc];exact ⟨by simp only;omega,by simp only;omega⟩,fun c hc=>by
   rcases List.mem_append.1 hc with hc | hc
   ·exact hP.pipes c hc
   ·rw [List.mem_singleton.1 hc];exact ⟨1 + b,rfl,hs⟩⟩
  refine ⟨u',h1,h2,?_⟩
  have b2:0 ≤ b ∧ b ≤ 1000:=by omega
  have e3:Unit → wrap64 (1 + b) = 1 + b:=fun _=>wrap_one b2.1 b2.2
  have h4:=plant_l2 hn hm (l:=l) (pp:=pp) (u:=u) (iu:=i) (s:=1 + b) (w:=1 + a) (by omega) h3 (by omega) n 0 (by omega)
  have hb0:(bits (1 + b) 0).map Int.ofNat = []:=rfl
  have hz:((0:Nat):Int) = 0:=rfl
  rw [hb0,hz] at h4
  refine Ev.step (fun k=>?_) h4
  rw [numnahlaw07_plant.l1,if_pos (by omega)]
  have f1:wrap64 (wrap64 (2 + (n:Int)) + wrap64 (2 * (i:Int))) = ((2 + n + 2 * i:Nat):Int):=e1 ()
  have f2:wrap64 (wrap64 (3 + (n:Int)) + wrap64 (2 * (i:Int))) = ((3 + n + 2 * i:Nat):Int):=e2 ()
  have f0:0 ≤ (n:Int):=Int.natCast_nonneg _
  rw [f1,ha,Option.bind_some,if_pos f0,f2,s1 (),hb,Option.bind_some,e3 (),e4 ()]
theorem plant_l0:∀ d i (pp:List Int),i + d = n → pp.length = i → (∀ x ∈ pp,0 ≤ x ∧ x ≤ 200) → ∃ p u,p.length = n ∧ (∀ x ∈ p,0 ≤ x ∧ x ≤ 200) ∧ u.length = m ∧ PlU n u ∧ Ev (fun k=>numnahlaw07_plant.l0 k l (n:Int) (m:Int) pp (i:Int)) (p,u):=by
 intro d
 induction d with
 | zero =>
  intro i pp hi hp hb
  obtain ⟨u,h1,h2,h3⟩:=plant_l1 hn hm (l:=l) (pp:=pp) m 0 [] (by omega) rfl ⟨fun a ha=>(by cases ha),fun a ha=>(by cases ha)⟩
  refine ⟨pp,u,by omega,hb,h1,h2,Ev.step (fun k=>?_) h3⟩
  rw [numnahlaw07_plant.l0,if_neg (by omega)];rfl
 | succ d ih =>
  intro i pp hi hp hb
  obtain ⟨a,a0,a1,ha⟩:=pick_some l (2 + i) (by omega) (n:=201) (by decide) (by decide)
  obtain ⟨p,u,h1,h2,h3,h4,h5⟩:=ih (i + 1) (pp ++ [a]) (by omega) (by rw [List.length_append,hp];rfl) (fun x hx=>by
   rcases List.mem_append.1 hx with hx | hx
   ·exact hb x hx
   ·rw [List.mem_singleton.1 hx];omega)
  refine ⟨p,u,h1,h2,h3,h4,Ev.step (fun k=>?_) h5⟩
  have e1:wrap64 (2 + (i:Int)) = ((2 + i:Nat):Int):=by rw [wrap_id (by omega) (by omega)];omega
  rw [numnahlaw07_plant.l0,if_pos (by omega),e1,ha]
  simp only [Option.bind_some]
  rw [if_pos (by omega),wrap_succ (by omega)]
end
theorem plU_ok {p:List Int} {u:List S45} (hp1:1 ≤ p.length) (hp5:p.length ≤ 5) (hp:∀ x ∈ p,0 ≤ x ∧ x ≤ 200) (hu1:1 ≤ u.length) (hu6:u.length ≤ 6) (hP:PlU p.length u):okNet p u = true:=by
 unfold okNet
 simp only [Bool.and_eq_true,decide_eq_true_eq,List.all_eq_true,allF_iff]
 refine ⟨⟨⟨⟨⟨hp1,hp5⟩,hu1⟩,hu6⟩,hp⟩,fun i _ hi=>?_⟩
 rw [rdT45 (by omega)]
 have hmem:u[i]'(by omega) ∈ u:=List.getElem_mem _
 have hw:=hP.wt _ hmem
 obtain ⟨s,hs,hne⟩:=hP.pipes _ hmem
 unfold okU
 simp only [Bool.and_eq_true,decide_eq_true_eq]
 rw [hs]
 refine ⟨⟨hw,?_⟩,bits_ok⟩
 rw [List.length_map]
 exact List.length_pos_iff.2 hne
theorem ev_plant (l:List Int):∃ p u,okNet p u = true ∧ (∀ a ∈ u,a.f1.length ≤ 1000000) ∧ Ev (fun k=>numnahlaw07_plant.f k l) (p,u):=by
 obtain ⟨a,a0,a1,ha⟩:=pick_some l 0 (by omega) (n:=5) (by decide) (by decide)
 obtain ⟨b,b0,b1,hb⟩:=pick_some l 1 (by omega) (n:=6) (by decide) (by decide)
 have e1:wrap64 (1 + a) = (((1 + a).toNat:Nat):Int):=by rw [wrap_id (by omega) (by omega)];omega
 have e2:wrap64 (1 + b) = (((1 + b).toNat:Nat):Int):=by rw [wrap_id (by omega) (by omega)];omega
 obtain ⟨p,u,h1,h2,h3,h4,h5⟩:=plant_l0 (l:=l) (n:=(1 + a).toNat) (m:=(1 + b).toNat) (by omega) (by omega) (1 + a).toNat 0 [] (by omega) rfl (fun x hx=>by cases hx)
 have hok:okNet p u = true:=plU_ok (by omega) (by omega) h2 (by omega) (by omega) (by rw [h1];exact h4)
 refine ⟨p,u,hok,fun c hc=>?_,?_⟩
 ·obtain ⟨i,hi,rfl⟩:=List.getElem_of_mem hc
  have:=(isN hok).len i hi
  omega
 ·unfold numnahlaw07_plant.f
  have ha':numnahlaw07_pick.f l 0 5 = some a:=ha
  have hb':numnahlaw07_pick.f l 1 6 = some b:=hb
  rw [ha',hb']
  simp only [Option.bind_some]
  rw [e1,e2]
  exact h5
end Go.Proofs.Ytjohcjfmlhihbaa.P
set_option linter.unusedSectionVars false
namespace Go.Proofs.Ytjohcjfmlhihbaa.P
open Go Go.RowKit Go.Proofs.Ytjohcjfmlhihbaa.G
open Go.Proofs.YtjohcjfmlhihbaaW.PrintWords Go.Proofs.YtjohcjfmlhihbaaW.PrintMore
section
variable {N:Net} {c:Rat} (hh:∀ v q,v < N.m → q < N.n → N.has v q = true) (hw:∀ v,v < N.m → 0 < N.w v) (h0:0 < S N.m N.w)
include hh hw h0
theorem eq_load {q:Nat} (hq:q < N.n):N.load (fun v=>c * N.w v / S N.m N.w) q = c:=by
 unfold Net.load
 have e:S N.m (fun v=>if N.has v q = true then c * N.w v / S N.m N.w else 0) = S N.m (fun v=>N.w v * (c / S N.m N.w)):=S_congr fun v hv=>by
  rw [if_pos (hh v q hv hq),Rat.div_def,Rat.div_def];grind
 rw [e,S_mul,Rat.div_def]
 have:S N.m N.w * (S N.m N.w)⁻¹ = 1:=Rat.mul_inv_cancel _ (by grind)
 grind
theorem eq_level {v:Nat} (hv:v < N.m):(c * N.w v / S N.m N.w) / N.w v = c / S N.m N.w:=by
 have:=hw v hv
 rw [Rat.div_def,Rat.div_def,Rat.div_def]
 have:N.w v * (N.w v)⁻¹ = 1:=Rat.mul_inv_cancel _ (by grind)
 grind
theorem eq_holds {q v:Nat} (hv:v < N.m):N.Holds (fun v=>c * N.w v / S N.m N.w) q v ↔ q < N.n ∧ N.cap q = c:=by
 constructor
 ·rintro ⟨h1,_,h3,_⟩
  rw [eq_load hh hw h0 h1] at h3
  exact ⟨h1,h3.symm⟩
 ·rintro ⟨h1,h2⟩
  refine ⟨h1,hh v q hv h1,by rw [eq_load hh hw h0 h1,h2],fun k hk _=>?_⟩
  show c * N.w k / S N.m N.w / N.w k ≤ c * N.w v / S N.m N.w / N.w v
  rw [eq_level hh hw h0 hk,eq_level hh hw h0 hv];exact Rat.le_refl
theorem eq_fair (hc:∀ q,q < N.n → c ≤ N.cap q) {a:Nat} (ha:a < N.n) (hca:N.cap a = c):N.Fair (fun v=>c * N.w v / S N.m N.w) :=
 ⟨fun q hq=>by rw [eq_load hh hw h0 hq];exact hc q hq,fun v hv=>⟨a,(eq_holds hh hw h0 hv).2 ⟨ha,hca⟩⟩⟩
end
def usr (l:List Int) (ws:List Int):List S45:=ws.map fun w=>(⟨w,l⟩:S45)
theorem usr_len (l ws:List Int):(usr l ws).length = ws.length:=List.length_map _
theorem usr_get {l ws:List Int} {i:Nat} (h:i < ws.length):rd_T45 (usr l ws) (i:Int) = ⟨rd ws (i:Int),l⟩:=by
 rw [rdT45 (by rw [usr_len];exact h),rd_get h]
 simp [usr]
structure Ws (ws:List Int):Prop where
 one:1 ≤ ws.length
 six:ws.length ≤ 6
 mem:∀ w ∈ ws,1 ≤ w ∧ w ≤ 4
theorem usr_ok {p l ws:List Int} (h:Ws ws) (hp1:1 ≤ p.length) (hp5:p.length ≤ 5) (hp:∀ x ∈ p,0 ≤ x ∧ x ≤ 200) (hl:1 ≤ l.length) (ha:allF (okAt p.length l) l.length 0 = true):okNet p (usr l ws) = true:=by
 unfold okNet
 simp only [Bool.and_eq_true,decide_eq_true_eq,List.all_eq_true,allF_iff,usr_len]
 refine ⟨⟨⟨⟨⟨hp1,hp5⟩,h.one⟩,h.six⟩,hp⟩,fun i _ hi=>?_⟩
 rw [usr_get (by omega)]
 have hm:=h.mem _ (List.getElem_mem (l:=ws) (n:=i) (by omega))
 unfold okU
 simp only [Bool.and_eq_true,decide_eq_true_eq]
 rw [rd_get (by omega)]
 exact ⟨⟨⟨hm.1,hm.2⟩,hl⟩,ha⟩
theorem S_sI:∀ (ws:List Int),S ws.length (fun v=>((rd ws (v:Int):Int):Rat)) = ((sI ws:Int):Rat):=by
 intro ws
 rw [← tot_cl]
 unfold S cl
 congr 1
 apply List.ext_getElem
 ·simp
 ·intro i h1 h2
  have:i < ws.length:=by simpa using h2
  rw [List.getElem_map,List.getElem_map,List.getElem_range,rd_get this]
theorem sI_pos:∀ {ws:List Int},(∀ w ∈ ws,1 ≤ w ∧ w ≤ 4) → (ws.length:Int) ≤ sI ws ∧ sI ws ≤ 4 * (ws.length:Int)
 | [],_=>by simp [sI]
 | a :: ws,h=>by
  have h1:=h a (by simp)
  have h2:=sI_pos (ws:=ws) fun w hw=>h w (List.mem_cons_of_mem _ hw)
  rw [sI_cons,List.length_cons]
  omega
end Go.Proofs.Ytjohcjfmlhihbaa.P
set_option linter.unusedSectionVars false
namespace Go.Proofs.Ytjohcjfmlhihbaa.G
open Go.RowKit Go.Proofs.YtjohcjfmlhihbaaW.PrintWords Go.Proofs.YtjohcjfmlhihbaaW.PrintLast Go.Proofs.YtjohcjfmlhihbaaW.PrintMore
attribute [local go_sem] max2_int min2_int max_two min_two max_three min_three max_four min_four   -- for this text's walks alone
set_option linter.unusedVariables false
set_option linter.unusedSimpArgs false
def numnahlaw07_list.f (l0:List Int):Option ((List Int)):=if 0 ≤ (mn (l0.length:Int) 11) then (if (mn (l0.length:Int) 11) ≤ (l0.length:Int) then ((some (l0.take ((mn (l0.length:Int) 11):Int).toNat:List Int)).bind fun y101=>(if ([]:List Int).length + y101.length < 8796093022208 then (some (([]:List Int) ++ y101)) else (none))) else (none)) else (none)
set_option maxHeartbeats 8000000 in
set_option maxRecDepth 100000 in
theorem numnahlaw07_list.calls (A0:Option Addr) (c0:Nat) (l0:List Int) (r:List Int) (w:World) (hr0:Kd.C (Kd.int .i64) w A0 l0.length l0) (hc0:l0.length ≤ c0) (h:numnahlaw07_list.f l0 = some r) :
  Calls Try.prog 35 #[.slice A0 l0.length c0] w fun e w'=>∃ v0_:Value,e = .returned (v0_) ∧ Kd.R (Kd.int .i64) 3 w' w.heap.size (fun _=>True) v0_ r ∧ Below w.heap.size w w':=by
 have HR0:=Aside0.mk hr0
 have HC0:=Aside0.mk hc0
 clear hr0 hc0
 have HB:=Aside0.mk (Below.refl w.heap.size w)
 have H:(if 0 ≤ (mn (l0.length:Int) 11) then (if (mn (l0.length:Int) 11) ≤ (l0.length:Int) then ((some (l0.take ((mn (l0.length:Int) 11):Int).toNat:List Int)).bind fun y101=>(if ([]:List Int).length + y101.length < 8796093022208 then (some (([]:List Int) ++ y101)) else (none))) else (none)) else (none)) = some r:=h
 clear h
 obtain ⟨ji2,hji2⟩:∃ j_:Int,(mn (l0.length:Int) 11) = j_:=⟨_,rfl⟩
 replace H:(if 0 ≤ (ji2) then (if (ji2) ≤ (l0.length:Int) then ((some (l0.take ((ji2):Int).toNat:List Int)).bind fun y101=>(if ([]:List Int).length + y101.length < 8796093022208 then (some (([]:List Int) ++ y101)) else (none))) else (none)) else (none)) = some r:=by first | (rw [hji2] at H;exact H) | (simp only [hji2] at H ⊢;exact H)
 (try (have hji2h:ji2 ≤ 11:=by (rw [← hji2];unfold mn;(repeat' split) <;> omega)))
 (try (have hji2g:ji2 ≤ 64:=by omega))
 (try (have hji2l:0 ≤ ji2:=by (rw [← hji2];unfold mn;(repeat' split) <;> omega)))
 (try (have hji2m:0 ≤ ji2:=by omega))
 have hji2_:(if 11 < (l0.length:Int) then 11 else (l0.length:Int)) = ji2:=hji2
 by_cases c3:0 ≤ (ji2)
 ·rw [if_pos c3] at H
  have c3b0:=eq_true c3
  have c3b1:decide (0 ≤ (ji2)) = true:=decide_eq_true c3
  clear c3
  by_cases c4:(ji2) ≤ (l0.length:Int)
  ·rw [if_pos c4] at H
   have c4b0:=eq_true c4
   have c4b1:decide ((ji2) ≤ (l0.length:Int)) = true:=decide_eq_true c4
   clear c4
   obtain ⟨y101,hy101⟩:∃ y_:List Int,y_ = (l0.take ((ji2):Int).toNat):=⟨_,rfl⟩
   replace H:(if ([]:List Int).length + y101.length < 8796093022208 then (some (([]:List Int) ++ y101)) else (none)) = some r:=by first | (rw [hy101];with_reducible exact H) | (have H2_:=(Option.bind_some _ _).symm.trans H;rw [hy101];with_reducible exact H2_) | (have H2_:=(Option.bind_some _ _).symm.trans H;with_reducible exact H2_) | with_reducible exact H | (rw [hy101];exact H) | exact H
   have Ny101:=Aside0.mk hy101
   clear hy101
   by_cases c5:([]:List Int).length + y101.length < 8796093022208
   ·rw [if_pos c5] at H
    have LMc5:=Aside0.mk c5
    clear c5
    obtain ⟨y105,hy105⟩:∃ y_:List Int,y_ = (([]:List Int) ++ y101):=⟨_,rfl⟩
    replace H:(some y105) = some r:=by first | (rw [hy105];with_reducible exact H) | (have H2_:=(Option.bind_some _ _).symm.trans H;rw [hy105];with_reducible exact H2_) | (have H2_:=(Option.bind_some _ _).symm.trans H;with_reducible exact H2_) | with_reducible exact H | (rw [hy105];exact H) | exact H
    have Ny105:=Aside0.mk hy105
    clear hy105
    obtain rfl:=Option.some.inj H
    have q6:((ji2):Int) ≤ ((l0.length:Int):Int):=of_decide_eq_true (by first | (with_reducible assumption) | assumption)
    obtain ⟨i06,hi06,_,hsz6,_⟩:=info_parts info3
    have hroom6:l0.length ≤ c0:=HC0.out
    have hC6:Kd.C (Kd.int .i64) _ A0 l0.length l0:=HR0.out
    have hcut6:=cut_to (P:=Try.prog) 28 3 .i64 Try.underlying28 hi06 A0 l0.length c0 (ji2) (of_decide_eq_true (by first | (with_reducible assumption) | assumption)) q6 hroom6
    have hr6:=Kd.C_take (m:=((ji2):Int).toNat) hC6 (by omega)
    have hy6:y101.length = ((ji2):Int).toNat:=(by rw [Ny101.out,List.length_take];omega)
    rw [← Ny101.out] at hr6
    rw [← hy6] at hcut6
    have HR104:=Aside0.mk hr6
    have HC104:=Aside0.mk (show y101.length ≤ c0 from by omega)
    clear hr6 hC6 hroom6 hi06 hsz6
    have KY6:=Aside0.mk hy6
    clear hy6
    replace q6:=eq_true q6
    go_enter Try.func35,Try.ntmps35
    go_wp2_with (first | ((with_reducible refine gate_builtin (b:=.append) (xs:=#[.tmp 4,.tmp 9]) rfl ?_);at_builtin;refine Kd.R_append_rows (Kd.int .i64) (w0:=w) w.heap.size rfl (.tmp 4) (.tmp 9) 28 3 (.int .i64 0) 8 rfl Try.underlying28 info3 rfl (by decide) (by omega) (.slice none 0 0) ([]:List Int) y101 _ _ _ (fun _=>True) (fun _=>False) rfl rfl ?aO ?aR (fun _ _ h=>h) (fun _ h=>h.elim) ?aF ?aB ?aS ?aL ?_;(case aR=>repeat (first | exact HR104.out | (with_reducible refine Kd.C_alloc ?_ _) | (with_reducible refine Kd.C_drewN ?_ _) | (with_reducible refine Kd.C_drew ?_)));(case aB=>exact (by repeat (first | (with_reducible first | exact HB.out | apply below_alloc | apply pw_below_drewN | apply below_drew1) | exact HB.out)));(case aF=>exact (fun _ _=>trivial));(case aO=>exact ((Kd.R_nil _ _ _ _ (fun _=>True))));(case aS=>exact (below_size (by repeat (first | (with_reducible first | exact HB.out | apply below_alloc | apply pw_below_drewN | apply below_drew1) | exact HB.out))));(case aL=>have:=LMc5.out;omega);intro v106 w7 ho hb hg hat;rw [← Ny105.out] at ho;have n0_:=Aside0.mk (hb);have n1_:=Aside0.mk (ho);clear HB;have HB:=n0_;have HO107:=n1_;clear n0_ n1_;clear ho hb hg hat))
    go_ret
    exact ⟨_,by first | rfl | (simp [errW_none,errW_some] <;> rfl) | (simp only [← hji2];first | rfl | (simp [errW_none,errW_some] <;> rfl)) | (simp [*,errW_none,errW_some] <;> rfl),by (with_reducible repeat (first | apply Kd.R_alloc | apply Kd.R_drewN | apply Kd.R_drew));exact HO107.out,by repeat (first | (with_reducible first | exact HB.out | apply below_alloc | apply pw_below_drewN | apply below_drew1) | exact HB.out)⟩
   ·rw [if_neg c5] at H
    exact absurd H (by simp)
  ·rw [if_neg c4] at H
   exact absurd H (by simp)
 ·rw [if_neg c3] at H
  exact absurd H (by simp)
end Go.Proofs.Ytjohcjfmlhihbaa.G
set_option linter.unusedSectionVars false
namespace Go.Proofs.Ytjohcjfmlhihbaa.P
open Go Go.RowKit Go.Proofs.Ytjohcjfmlhihbaa.G
open Go.Proofs.YtjohcjfmlhihbaaW.PrintWords Go.Proofs.YtjohcjfmlhihbaaW.PrintMore
theorem list_f (l:List Int):numnahlaw07_list.f l = some (l.take 11):=by
 unfold numnahlaw07_list.f
 rw [mn11,if_pos (by omega),if_pos (by omega),Int.toNat_natCast]
 simp only [Option.bind_some,List.nil_append,List.length_nil]
 rw [if_pos (by rw [List.length_take];omega)]
 congr 1
 by_cases h:l.length ≤ 11
 ·rw [List.take_of_length_le (by omega),List.take_of_length_le h]
 ·rw [show min l.length 11 = 11 by omega]
end Go.Proofs.Ytjohcjfmlhihbaa.P
set_option linter.unusedSectionVars false
namespace Go.Proofs.Ytjohcjfmlhihbaa.P
open Go Go.RowKit Go.Proofs.Ytjohcjfmlhihbaa.G
open Go.Proofs.YtjohcjfmlhihbaaW.PrintWords Go.Proofs.YtjohcjfmlhihbaaW.PrintMore
def rateS (a:S23):Prop:=1 ≤ a.f1 ∧ a.f1 ≤ 100 ∧ 0 ≤ a.f0 ∧ a.f0 ≤ 1000000 ∧ Nat.gcd a.f0.natAbs a.f1.toNat = 1
instance (a:S23):Decidable (rateS a):=by unfold rateS;exact inferInstance
theorem fits_of {a b:Rat} {A B D E:Nat} (a1:a.num.natAbs ≤ A) (a2:a.den ≤ D) (b1:b.num.natAbs ≤ B) (b2:b.den ≤ E) (h:A * E + B * D < 9223372036854775808) (h2:D * E < 9223372036854775808):Fits a b :=
 ⟨Nat.lt_of_le_of_lt (Nat.add_le_add (Nat.mul_le_mul a1 b2) (Nat.mul_le_mul b1 a2)) h,Nat.lt_of_le_of_lt (Nat.mul_le_mul a2 b2) h2⟩
end Go.Proofs.Ytjohcjfmlhihbaa.P
set_option linter.unusedSectionVars false
set_option linter.unusedSectionVars false
namespace Go.Proofs.Ytjohcjfmlhihbaa.P
open Go Go.RowKit Go.Proofs.Ytjohcjfmlhihbaa.G
open Go.Proofs.YtjohcjfmlhihbaaW.PrintWords Go.Proofs.YtjohcjfmlhihbaaW.PrintMore
section
variable {p:List Int} {u:List S45} (hN:IsN p u) {x:List Rat} (hx:FairR p u x)
include hN hx
theorem fair_fit:∀ q ∈ x,0 ≤ q ∧ Sm 1073741824 1073741824 q:=by
 obtain ⟨D,d0,dD,hb⟩:=hx.bd
 intro q hq
 obtain ⟨i,hi,rfl⟩:=List.getElem_of_mem hq
 obtain ⟨a,b,c⟩:=hb i (by have:=hx.len;omega)
 rw [rt_get hi] at a b c
 have hd:x[i].den ≤ 2949120:=Nat.le_trans (Nat.le_of_dvd d0 c) dD
 have z:(0:Rat) ≤ ((200:Nat):Rat):=Rat.natCast_nonneg
 have h5:=num_bound (B:=200) (by grind) b
 have:200 * x[i].den ≤ 200 * 2949120:=Nat.mul_le_mul_left _ hd
 exact ⟨a,⟨by omega,by omega⟩⟩
end
end Go.Proofs.Ytjohcjfmlhihbaa.P
namespace Go.Proofs.Ytjohcjfmlhihbaa.G
open Go.RowKit Go.Proofs.YtjohcjfmlhihbaaW.PrintWords Go.Proofs.YtjohcjfmlhihbaaW.PrintLast Go.Proofs.YtjohcjfmlhihbaaW.PrintMore
set_option maxHeartbeats 8000000
set_option maxRecDepth 100000
attribute [local go_sem] cond_true cond_false fld23_0 fld23_1 fld45_0 fld45_1 fld109_0 fld109_1 fld94_0 fld94_1 max2_int min2_int max_two min_two max_three min_three max_four min_four   -- for this text's walks alone
def numnahlaw07_alone.l0:Nat → List (S45) → List (S45) → Int → Option ((List (S45)))
 | 0,_,_,_=>none
 | k + 1,x0,x3,x4=>if x4 < (x0.length:Int) then (if 0 ≤ x4 then (if x3.length < 4398046511104 then (numnahlaw07_alone.l0 k x0 (x3 ++ [(⟨(rd_T45 x0 x4).f0,(([0]:List Int))⟩:S45)]) (wrap64 (x4 + 1))) else (none)) else (none)) else (some x3)
def numnahlaw07_alone.f (k:Nat) (l0:List (S45)):Option ((List (S45))):=numnahlaw07_alone.l0 k l0 ([]:List (S45)) 0
theorem numnahlaw07_alone.mono_l:∀ k,(∀ y0 y1 y2,LeO (numnahlaw07_alone.l0 k y0 y1 y2) (numnahlaw07_alone.l0 (k + 1) y0 y1 y2))
 | 0=>fun _ _ _ r h=>by simp [numnahlaw07_alone.l0] at h
 | k + 1=>by
  have d8:=numnahlaw07_alone.mono_l k
  intro y0 y1 y2
  unfold numnahlaw07_alone.l0
  repeat' first
  | (with_reducible exact d8 _ _ _)
  | (with_reducible exact LeO.refl _)
  | (with_reducible exact LeO.none _)
  | (with_reducible refine LeO.ite ?_ ?_)
  | (with_reducible refine LeO.bind ?_ (fun _=>?_))
  | exact d8 _ _ _
  | exact LeO.none _
  | refine LeO.ite ?_ ?_
  | refine LeO.bind ?_ (fun _=>?_)
theorem numnahlaw07_alone.mono:∀ a0 k,LeO (numnahlaw07_alone.f k a0) (numnahlaw07_alone.f (k + 1) a0):=by
 intro a0 k
 have d8:=numnahlaw07_alone.mono_l k
 unfold numnahlaw07_alone.f
 repeat' first
   | (with_reducible exact d8 _ _ _)
   | (with_reducible exact LeO.refl _)
   | (with_reducible exact LeO.none _)
   | (with_reducible refine LeO.ite ?_ ?_)
   | (with_reducible refine LeO.bind ?_ (fun _=>?_))
   | exact d8 _ _ _
   | exact LeO.none _
   | refine LeO.ite ?_ ?_
   | refine LeO.bind ?_ (fun _=>?_)
theorem numnahlaw07_alone.calls (k:Nat) (A0:Option Addr) (c0:Nat) (l0:List (S45)) (r:List (S45)) (w:World) (e9:Kd.C k45 w A0 l0.length l0) (h0:l0.length ≤ c0) (h:numnahlaw07_alone.f k l0 = some r) :
  Calls Try.prog 53 #[.slice A0 l0.length c0] w fun e w'=>∃ h1:Value,e = .returned (h1) ∧ Kd.S k45 45 w' w.heap.size (fun _=>True) h1 r ∧ Below w.heap.size w w':=by
 have h8:=Try.underlying45
 have h9:=Aside0.mk e9
 have i2:=Aside0.mk h0
 clear e9 h0
 have HB:=Aside0.mk (Below.refl w.heap.size w)
 have H:(numnahlaw07_alone.l0 k l0 ([]:List (S45)) 0) = some r:=h
 clear h
 have H':=Aside0.mk H
 clear H
 go_enter Try.func53,Try.ntmps53
 go_wp2
 go_loopg [3,4] k (fun kq v3 v4 w'=>∃ (b7:List (S45)) (b0:Int),v4 = .int .i64 b0 ∧ Aside0 (numnahlaw07_alone.l0 kq l0 b7 b0 = some r) ∧ Aside0 (kq ≤ k) ∧ Aside0 (Kd.S k45 45 w' w.heap.size (fun _=>True) v3 b7) ∧ Aside0 (Below w.heap.size w w'))
 case atStart=>exact ⟨(([]:List (S45))),(0),(by first | rfl | (simp;done) | (simp [*];done)),H',⟨Nat.le_refl _⟩,⟨by first | exact Kd.S_nil _ _ _ _ _ | exact Kd.N_nil _ _ _ _ _ | exact Kd.V_nil _ _ _ _ _ | exact Kd.Q_nil _ _ _ _ _ | exact Kd.R_nil _ _ _ _ _⟩,⟨by repeat (first | (with_reducible first | exact HB.out | apply below_alloc | apply pw_below_drewN | apply below_drew1) | exact HB.out)⟩⟩
 case round =>
  clear H'
  obtain ⟨b7,b0,rfl,HA,h2,b8,HB⟩:=hrel
  cases gk with
  | zero=>exact absurd HA.out (by simp [numnahlaw07_alone.l0])
  | succ k1 =>
   have H:=HA.out
   clear HA
   simp only [numnahlaw07_alone.l0] at H
   by_cases c2:b0 < (l0.length:Int)
   case neg =>
    rw [if_neg c2] at H
    have e6:decide (b0 < (l0.length:Int)) = false:=decide_eq_false c2
    clear c2
    obtain rfl:=Option.some.inj H
    go_wp2
    go_ret
    exact ⟨_,by first | rfl | (simp [errW_none,errW_some] <;> rfl) | (simp [*,errW_none,errW_some] <;> rfl),by (with_reducible repeat (first | apply Kd.S_alloc | apply Kd.S_drewN | apply Kd.S_drew));exact b8.out,by repeat (first | (with_reducible first | exact HB.out | apply below_alloc | apply pw_below_drewN | apply below_drew1) | exact HB.out)⟩
   rw [if_pos c2] at H
   have e6:decide (b0 < (l0.length:Int)) = true:=decide_eq_true c2
   clear c2
   by_cases c3:0 ≤ b0
   case neg =>
    rw [if_neg c3] at H
    exact absurd H (by simp)
   rw [if_pos c3] at H
   have i0:decide (0 ≤ b0) = true:=decide_eq_true c3
   clear c3
   obtain ⟨b5,b1⟩:∃ y_:List Int,y_ = (([0]:List Int)):=⟨_,rfl⟩
   replace H:(if b7.length < 4398046511104 then (numnahlaw07_alone.l0 k1 l0 (b7 ++ [(⟨(rd_T45 l0 b0).f0,b5⟩:S45)]) (wrap64 (b0 + 1))) else (none)) = some r:=by first | (rw [b1];with_reducible exact H) | (have d4:=(Option.bind_some _ _).symm.trans H;rw [b1];with_reducible exact d4) | (have d4:=(Option.bind_some _ _).symm.trans H;with_reducible exact d4) | with_reducible exact H | (rw [b1];exact H) | exact H
   have d0:=Aside0.mk b1
   clear b1
   by_cases c4:b7.length < 4398046511104
   case neg =>
    rw [if_neg c4] at H
    exact absurd H (by simp)
   rw [if_pos c4] at H
   have e7:=Aside0.mk c4
   clear c4
   obtain ⟨d3,b2⟩:∃ y_:List (S45),y_ = (b7 ++ [(⟨(rd_T45 l0 b0).f0,b5⟩:S45)]):=⟨_,rfl⟩
   replace H:(numnahlaw07_alone.l0 k1 l0 d3 (wrap64 (b0 + 1))) = some r:=by first | (rw [b2];with_reducible exact H) | (have d4:=(Option.bind_some _ _).symm.trans H;rw [b2];with_reducible exact d4) | (have d4:=(Option.bind_some _ _).symm.trans H;with_reducible exact d4) | with_reducible exact H | (rw [b2];exact H) | exact H
   have d5:=Aside0.mk b2
   clear b2
   have H':=Aside0.mk H
   clear H
   have d1:0 ≤ (b0:Int):=of_decide_eq_true (by first | (with_reducible assumption) | assumption)
   have d2:b0 < (l0.length:Int):=of_decide_eq_true (by first | (with_reducible assumption) | assumption)
   obtain ⟨e8,e4,e5,d9,b3,b4,b9,c1⟩:=at_T45 h9.out b0 d1 d2
   cases d9
   replace b3:=(HB.out.cell (World.block_lt_of_cell? w _ b3)).trans b3
   replace b4:=(HB.out.cell (World.block_lt_of_cell? w _ b4)).trans b4
   have e0:=Aside0.mk c1
   have e1:=Aside0.mk b9
   clear c1 b9
   replace d1:=eq_true d1
   replace d2:=eq_true d2
   go_wp2_with (first | ((with_reducible refine gate_dst (N:=17) rfl ?_);refine Kd.R_lit (Kd.int .i64) _ 3 ?hg (N:=17) ?hd (xs:=([0]:List Int)) (inner:=[.int .i64 0]) (ok:=fun _=>True) (okp:=fun _=>True) ?hr ?hp (fun _ hk=>hk) trivial (Below.refl _ _) (Nat.le_refl _) (by simp) ?_;(case hd=>rfl);(case hg=>rfl);(case hr=>first | (go_simp;done) | (go_simp;rfl));(case hp=>exact (Reps.one (show Kd.M (Kd.int .i64) _ _ _ 0 [.int .i64 0] from rfl) (Reps.none _ _)));intro h3 w5 d7 hb hg_ hnew_;clear hg_ hnew_;(first | rw [← d0.out] at d7 | (simp only [Int.reduceToNat] at d7;rw [← d0.out] at d7));have e2:=Aside0.mk (Kd.S_elder' (by (with_reducible repeat (first | apply Kd.S_alloc | apply Kd.S_drewN | apply Kd.S_drew));exact b8.out) (Kd.R_base d7) hb);have e3:=Aside0.mk (Kd.R_lower d7 (below_size (by repeat (first | (with_reducible first | exact HB.out | apply below_alloc | apply pw_below_drewN | apply below_drew1) | exact HB.out))));have h4:=Aside0.mk (below_step (by repeat (first | (with_reducible first | exact HB.out | apply below_alloc | apply pw_below_drewN | apply below_drew1) | exact HB.out)) hb);clear b8;clear HB;have b8:=e2;have b6:=e3;have HB:=h4;clear e2 e3 h4;clear hb d7;obtain ⟨h5,h6,i1⟩:=Kd.R_slice b6.out;subst i1) | ((with_reducible refine gate_builtin (b:=.append) (xs:=#[.tmp 11,.tmp 19]) rfl ?_);at_builtin;refine Kd.S_append k45 (w0:=w) w.heap.size rfl (.tmp 11) (.tmp 19) 43 45 (.agg #[(.int .i64 0),(.slice none 0 0)]) 32 rfl Try.underlying43 info45 rfl (by decide) (by omega) u3 b7 (⟨(rd_T45 l0 b0).f0,b5⟩:S45) [.int .i64 ((rd_T45 l0 b0).f0),.slice h5 b5.length h6] (fun _=>True) (fun k_=>some k_ = (.slice h5 b5.length h6:Value).ownBlock) rfl rfl ?aP (fun k_ hk_=>((Kd.R_mono (ok':=fun k_=>((fun _=>True)) k_ ∧ some k_ ≠ (u3:Value).ownBlock) (Kd.R_apart' (b6.out) (Kd.S_typed b8.out) (by decide)) (fun k_ hk=>⟨trivial,hk.2⟩))).1 k_ hk_.symm) ?aF ?aO ?aB ?aS ?aL ?_;(case aP=>exact k45_mkM _ _ _ (⟨(rd_T45 l0 b0).f0,b5⟩:S45) (Kd.R_mono (Kd.R_tight rfl (Kd.R_mono (ok':=fun k_=>((fun _=>True)) k_ ∧ some k_ ≠ (u3:Value).ownBlock) (Kd.R_apart' (b6.out) (Kd.S_typed b8.out) (by decide)) (fun k_ hk=>⟨trivial,hk.2⟩))) (fun _ h_=>h_)));(case aB=>exact (by repeat (first | (with_reducible first | exact HB.out | apply below_alloc | apply pw_below_drewN | apply below_drew1) | exact HB.out)));(case aF=>exact (fun _ _=>trivial));(case aO=>exact (by (with_reducible repeat (first | apply Kd.S_alloc | apply Kd.S_drewN | apply Kd.S_drew));exact Kd.S_mono b8.out (fun k_ hk=>⟨trivial,fun e_=>hk.2 e_⟩)));(case aS=>exact (below_size (by repeat (first | (with_reducible first | exact HB.out | apply below_alloc | apply pw_below_drewN | apply below_drew1) | exact HB.out))));(case aL=>have:=e7.out;omega);intro h7 w8 ho hb hg hat;rw [← d5.out] at ho;have e2:=Aside0.mk (hb);have e3:=Aside0.mk (ho);clear HB;clear b8;clear b6;have HB:=e2;have d6:=e3;clear e2 e3;clear ho hb hg hat))
   go_roundg k1
   case measure=>have:=h2.out;omega
   case rel=>exact ⟨(d3),(wrap64 (b0 + 1)),(by first | rfl | (simp;done) | (simp [*];done)),H',⟨by have:=h2.out;omega⟩,⟨by (with_reducible repeat (first | apply Kd.S_alloc | apply Kd.S_drewN | apply Kd.S_drew));exact d6.out⟩,⟨by repeat (first | (with_reducible first | exact HB.out | apply below_alloc | apply pw_below_drewN | apply below_drew1) | exact HB.out)⟩⟩
end Go.Proofs.Ytjohcjfmlhihbaa.G

/- Several texts, joined. -/
import Derived.WalkKit
import Derived.ProofKit
import Derived.OpenShut
import Derived.ShutString
import Derived.ChangeOld
import Derived.ChangeSame
import Derived.Below
import Derived.SizedLaws
import Derived.KernelRfl
import Derived.Test.YtjohcjfmlhihbaaRows
import Derived.Test.YtjohcjfmlhihbaaQG2
namespace Go.Proofs.Ytjohcjfmlhihbaa.H
end Go.Proofs.Ytjohcjfmlhihbaa.H
namespace Go.Proofs.Ytjohcjfmlhihbaa.Row
end Go.Proofs.Ytjohcjfmlhihbaa.Row
set_option linter.unusedVariables false
set_option linter.unusedSimpArgs false
namespace Go.Proofs.Ytjohcjfmlhihbaa.Row
open Go Go.ChangeShapes Go.WideShapes Go.ChangeAt Go.RowKit Go.Proofs.Ytjohcjfmlhihbaa.G Go.Proofs.YtjohcjfmlhihbaaW.PrintWords
theorem add_add (a:Addr) (n:Nat):(a.add n).add 1 = a.add (n + 1):=by
 unfold Addr.add
 by_cases h:n = 0
 ·subst h;rfl
 ·rw [if_neg h,if_neg (by omega),if_neg (by omega)]
  simp only [Nat.add_assoc]
section
variable {H:Type} {enc:TypeId × Value → H} {w:World} {base:Nat} {spare:Nat → Bool} {held:Bool} {fuel:Nat} {cs:List Value} {x:DataW H × List MemPlace}
theorem open_list (h:DataW.trod enc Try.prog w base spare held fuel 28 cs = some x):∃ (A:Option Addr) (l:List Int) (c:Nat),cs = [.slice A l.length c] ∧ l.length ≤ c ∧ Kd.C (Kd.int .i64) w A l.length l:=by
 rcases open_ints Try.underlying28 Try.underlying3 (by kernel_rfl) h with ⟨rfl,_⟩ | ⟨a,len,cap,zs,rfl,_,hl,hm,hz,_,hcell,_⟩
 ·exact ⟨none,[],0,rfl,Nat.le_refl _,rfl,by decide,fun h=>by simp at h⟩
 ·have hzl:len ≤ zs.length:=by rw [hz];split <;> omega
  have hll:(zs.take len).length = len:=by rw [List.length_take];omega
  have hm':cap ≤ 9223372036854775807:=hm
  refine ⟨some a,zs.take len,cap,by rw [hll],by rw [hll];exact hl,rfl,by rw [hll];omega,fun _=>⟨a,rfl,fun j p hj=>?_⟩⟩
  rw [List.getElem?_take] at hj
  split at hj
  ·refine ⟨[.int .i64 p],rfl,rfl,fun i u hu=>?_⟩
   rcases i with _ | i
   ·simp only [List.getElem?_cons_zero,Option.some.injEq] at hu
    subst hu
    have hjl:=(List.getElem?_eq_some_iff.1 hj).1
    have:=hcell j hjl
    rw [List.getD_eq_getElem?_getD,hj,Option.getD_some] at this
    show w.cell? (a.add (j * 1 + 0)) = _
    rw [Nat.mul_one,Nat.add_zero]
    exact this
   ·simp at hu
  ·cases hj
theorem first_of {cs':List Value} {v:Value} {m:Nat} (h:(cs'.drop m).take 1 = [v]):cs'[m]? = some v:=by
 have e3:=congrArg (fun l:List Value=>l[0]?) h
 simp only [List.getElem?_take,List.getElem?_drop,List.getElem?_cons_zero] at e3
 simpa using e3
theorem open_fracs (h:DataW.trod enc Try.prog w base spare held fuel 35 cs = some x):∃ (A:Option Addr) (l:List S23) (c:Nat),cs = [.slice A l.length c] ∧ l.length ≤ c ∧ (∀ e ∈ l,(Lit.int .i64 e.f0).wf = true ∧ (Lit.int .i64 e.f1).wf = true) ∧ Kd.C k23 w A l.length l:=by
 rcases DataW.trod_slice Try.underlying35 h with ⟨rfl,_⟩ | ⟨a,len,cap,elems,rest,n,_,rfl,_,hb,hl,hm,hlen,hel,_,_⟩
 ·exact ⟨none,[],0,rfl,Nat.le_refl _,fun e he=>by simp at he,rfl,by decide,fun h=>by simp at h⟩
 ·have hm':cap ≤ 9223372036854775807:=hm
  have c23:Try.prog.cellsOf 23 = 2:=by kernel_rfl
  have c3:Try.prog.cellsOf 3 = 1:=by kernel_rfl
  have key:∀ i,i < len → ∃ e:S23,(w.cell? (a.add (i * 2)) = some (.int .i64 e.f0) ∧ w.cell? (a.add (i * 2 + 1)) = some (.int .i64 e.f1)) ∧ (Lit.int .i64 e.f0).wf = true ∧ (Lit.int .i64 e.f1).wf = true:=by
   intro i hi
   have h0:=hel i hi
   rw [List.getElem?_eq_getElem (by omega),Option.bind_eq_some_iff,c23] at h0
   obtain ⟨cs',h1,h2⟩:=h0
   obtain ⟨_,hcl,hcc⟩:=World.cells?_some h1
   obtain ⟨y0,y1,m1,_,_,e0,e1⟩:=trod_struct2 Try.underlying23 h2
   simp only [c3] at e0 e1
   obtain ⟨x0,q0,_,w0⟩:=DataW.trod_int Try.underlying3 e0
   obtain ⟨x1,q1,_,w1⟩:=DataW.trod_int Try.underlying3 e1
   have g0:cs'[0]? = some (.int .i64 x0):=first_of q0
   have g1:cs'[1]? = some (.int .i64 x1):=first_of q1
   have k0:=hcc 0 (by omega)
   have k1:=hcc 1 (by omega)
   refine ⟨⟨x0,x1⟩,⟨?_,?_⟩,w0,w1⟩
   ·have e:(a.add (i * 2)).add 0 = a.add (i * 2):=rfl
    rw [e] at k0;exact k0.trans g0
   ·have e:(a.add (i * 2)).add 1 = a.add (i * 2 + 1):=add_add a (i * 2)
    rw [e] at k1;exact k1.trans g1
  obtain ⟨f,hf⟩:∃ f:Nat → S23,∀ i,i < len → (w.cell? (a.add (i * 2)) = some (.int .i64 (f i).f0) ∧ w.cell? (a.add (i * 2 + 1)) = some (.int .i64 (f i).f1)) ∧ (Lit.int .i64 (f i).f0).wf = true ∧ (Lit.int .i64 (f i).f1).wf = true :=
   ⟨fun i=>if h:i < len then Classical.choose (key i h) else ⟨0,0⟩,fun i hi=>by simp only [dif_pos hi];exact Classical.choose_spec (key i hi)⟩
  have hll:((List.range len).map f).length = len:=by simp
  refine ⟨some a,(List.range len).map f,cap,by rw [hll],by rw [hll];exact hl,?_,rfl,by rw [hll];omega,fun _=>⟨a,rfl,fun j p hj=>?_⟩⟩
  ·intro e he
   rw [List.mem_map] at he
   obtain ⟨i,hi,rfl⟩:=he
   exact (hf i (List.mem_range.1 hi)).2
  rw [List.getElem?_map,Option.map_eq_some_iff] at hj
  obtain ⟨i,hi,rfl⟩:=hj
  have hil:=(List.getElem?_eq_some_iff.1 hi).1
  rw [List.length_range] at hil
  rw [List.getElem?_range hil,Option.some.injEq] at hi
  subst hi
  refine ⟨[.int .i64 (f j).f0,.int .i64 (f j).f1],rfl,k23_mk w (f j),fun i u hu=>?_⟩
  show w.cell? (a.add (j * 2 + i)) = _
  rcases i with _ | _ | i
  ·simp only [List.getElem?_cons_zero,Option.some.injEq] at hu;subst hu;exact (hf j hil).1.1
  ·simp only [List.getElem?_cons_succ,List.getElem?_cons_zero,Option.some.injEq] at hu;subst hu;exact (hf j hil).1.2
  ·simp at hu
set_option maxRecDepth 100000 in
theorem open_list1 {r:Reach} {b0:Nat} {v:Value} {d:DataW H} {p:List MemPlace} (hv:Value.okWide Try.prog w r b0 28 v) (h:DataW.Trod enc Try.prog w base spare held 28 v d p):∃ (A:Option Addr) (l:List Int) (c:Nat),v = .slice A l.length c ∧ l.length ≤ c ∧ Kd.C (Kd.int .i64) w A l.length l:=by
 obtain ⟨A,len,cap,rfl⟩:=okWide_slice Try.underlying28 hv
 obtain ⟨m,hm⟩:=h
 obtain ⟨A',l,c,e,r⟩:=open_list hm
 have e2:[Value.slice A len cap] = [.slice A' l.length c]:=e
 injection e2 with e2 _
 exact ⟨A',l,c,e2,r⟩
set_option maxRecDepth 100000 in
theorem open_fracs1 {r:Reach} {b0:Nat} {v:Value} {d:DataW H} {p:List MemPlace} (hv:Value.okWide Try.prog w r b0 35 v) (h:DataW.Trod enc Try.prog w base spare held 35 v d p):∃ (A:Option Addr) (l:List S23) (c:Nat),v = .slice A l.length c ∧ l.length ≤ c ∧ (∀ e ∈ l,(Lit.int .i64 e.f0).wf = true ∧ (Lit.int .i64 e.f1).wf = true) ∧ Kd.C k23 w A l.length l:=by
 obtain ⟨A,len,cap,rfl⟩:=okWide_slice Try.underlying35 hv
 obtain ⟨m,hm⟩:=h
 obtain ⟨A',l,c,e,r⟩:=open_fracs hm
 have e2:[Value.slice A len cap] = [.slice A' l.length c]:=e
 injection e2 with e2 _
 exact ⟨A',l,c,e2,r⟩
end
end Go.Proofs.Ytjohcjfmlhihbaa.Row
namespace Go.Proofs.Ytjohcjfmlhihbaa.G
open Go Go.RowKit Go.Shelf Go.Proofs.Ytjohcjfmlhihbaa.H Go.Proofs.YtjohcjfmlhihbaaW.PrintWords
attribute [local go_sem] Oper.semAt_some wide_fn
def newClaimsR.f (k:Nat) (l0:List Int) (a1:Int):Option Bool:=(shares_newClaims.f k l0 a1).map fun x=>x.2.2
theorem newClaimsR.mono:∀ l0 a1 k,LeO (newClaimsR.f k l0 a1) (newClaimsR.f (k + 1) l0 a1):=by
 intro l0 a1 k r h
 unfold newClaimsR.f at h ⊢
 obtain ⟨x,hx,rfl⟩:=Option.map_eq_some_iff.1 h
 rw [shares_newClaims.mono _ _ _ x hx]
 rfl
theorem newClaimsR.parts {k:Nat} {l0:List Int} {a1:Int} {r:Bool} (h:newClaimsR.f k l0 a1 = some r) :
  (shares_areClaims.f l0 = some false ∧ r = false) ∨ (shares_areClaims.f l0 = some true ∧ ∃ t,shares_total.f k l0 = some t ∧ r = decide (0 ≤ a1 ∧ a1 ≤ t)):=by
 unfold newClaimsR.f shares_newClaims.f at h
 obtain ⟨x,hx,rfl⟩:=Option.map_eq_some_iff.1 h
 obtain ⟨b,hb,hx⟩:=Option.bind_eq_some_iff.1 hx
 cases b with
 | false =>
  rw [if_neg (by decide)] at hx
  obtain rfl:=Option.some.inj hx
  exact .inl ⟨hb,rfl⟩
 | true =>
  rw [if_pos rfl] at hx
  obtain ⟨t,ht,hx⟩:=Option.bind_eq_some_iff.1 hx
  obtain ⟨q,hq,hx⟩:=Option.bind_eq_some_iff.1 hx
  obtain rfl:=Option.some.inj hx
  refine .inr ⟨hb,t,ht,?_⟩
  unfold shares_within.f at hq
  by_cases g:a1 ≥ 0
  case neg =>
   rw [if_neg g] at hq
   obtain rfl:=Option.some.inj hq
   show false = decide (0 ≤ a1 ∧ a1 ≤ t)
   rw [eq_comm,decide_eq_false_iff_not]
   exact fun k=>g k.1
  rw [if_pos g] at hq
  obtain rfl:=Option.some.inj hq
  show decide (a1 ≤ t) = decide (0 ≤ a1 ∧ a1 ≤ t)
  rw [Bool.eq_iff_iff,decide_eq_true_iff,decide_eq_true_iff]
  exact ⟨fun k=>⟨g,k⟩,fun k=>k.2⟩
set_option maxHeartbeats 2000000 in
theorem newClaimsR.calls (k:Nat) (A0:Option Addr) (c0:Nat) (l0:List Int) (a1:Int) (r:Bool) (w:World) (hr0:Kd.C (Kd.int .i64) w A0 l0.length l0) (hc0:l0.length ≤ c0) (h:newClaimsR.f k l0 a1 = some r) :
  Calls Try.prog 62 #[.slice A0 l0.length c0,.int .i64 a1] w fun e w'=>e = .returned (.tuple #[.agg #[.slice A0 l0.length c0,.int .i64 a1],.bool r]) ∧ Below w.heap.size w w':=by
 refine (callsIn_wide (n:=9)).1 ?_
 refine callsIn_of_wp Try.func62 rfl trivial ?_
 simp only [Try.ntmps62,List.size_toArray,List.length_cons,List.length_nil,Nat.reduceAdd,Nat.reduceSub,Array.replicate_succ,Array.replicate_zero,List.push_toArray,List.append_toArray,List.nil_append,List.cons_append]
 have HL:=Lib.hid (Kd.C_alloc hr0 (.cells #[.slice none 0 0,.int .i64 0] 94))
 obtain ⟨a,b,c⟩:=lay1 w (.cells #[.slice none 0 0,.int .i64 0] 94)
 have HA:=Lib.hid a
 have HS:=Lib.hid b
 have HB:=Lib.hid c
 have HH:=Lib.hid (newClaimsR.parts h)
 clear h hr0 a b c
 gi_wp2_with fail
 rcases HH.out with ⟨h1,rfl⟩ | ⟨h1,t,h2,rfl⟩
 ·refine (callsIn_wide.2 (shares_areClaims.calls A0 c0 l0 false _ HL.out hc0 h1)).mono ?_
  rintro e w1 ⟨rfl,hb⟩
  have hc:=(hb.block _ (by rw [HS.out];omega)).trans HA.out
  have HC:=Lib.hid hc
  have k0:=(blk_cell hc 0).trans rfl
  have k1:=(blk_cell hc 1).trans rfl
  have f0:=blk_frozen hc 0
  have f1:=blk_frozen hc 1
  have HB1:=Lib.hid (HB.out.trans (hb.mono HB.out.size))
  clear hb h1 hc
  gi_wp2_with fail
  refine bodyPost_ret (results_ct rfl _ _ w.heap.size 94 #[.slice A0 l0.length c0,.int .i64 a1] (0,0) _ rfl (blk_put (blk_put HC.out 0 _ rfl) 1 _ rfl) Try.underlying94 rfl (by kernel_rfl)) rfl ⟨rfl,below_set (below_set HB1.out (Nat.le_refl _)) (Nat.le_refl _)⟩
 refine (callsIn_wide.2 (shares_areClaims.calls A0 c0 l0 true _ HL.out hc0 h1)).mono ?_
 rintro e w1 ⟨rfl,hb⟩
 have hc:=(hb.block _ (by rw [HS.out];omega)).trans HA.out
 have HC:=Lib.hid hc
 have k0:=(blk_cell hc 0).trans rfl
 have k1:=(blk_cell hc 1).trans rfl
 have f0:=blk_frozen hc 0
 have f1:=blk_frozen hc 1
 have HL1:=Lib.hid (Kd.C_below HL.out hb)
 have HB1:=Lib.hid (HB.out.trans (hb.mono HB.out.size))
 clear hb h1 hc
 gi_wp2_with fail
 refine (callsIn_wide.2 (shares_total.calls k A0 c0 l0 t _ HL1.out hc0 h2)).mono ?_
 rintro e w2 ⟨rfl,⟨n2,rfl⟩⟩
 gi_wp2_with fail
 refine (callsIn_wide.2 (within_val a1 0 t _)).mono ?_
 rintro e w3 ⟨rfl,⟨n3,rfl⟩⟩
 obtain ⟨q,hq⟩:∃ q,decide (0 ≤ a1 ∧ a1 ≤ t) = q:=⟨_,rfl⟩
 rw [hq]
 have HQ:=Lib.hid hq
 clear hq
 gi_wp2_with fail
 exact bodyPost_ret (results_ct rfl _ _ w.heap.size 94 #[.slice A0 l0.length c0,.int .i64 a1] (0,0) _ rfl (blk_put (blk_put (blk_drewN HC.out _) 0 _ rfl) 1 _ rfl) Try.underlying94 rfl (by kernel_rfl)) rfl ⟨by rw [HQ.out];rfl,below_set (below_set (below_drewN HB1.out _) (Nat.le_refl _)) (Nat.le_refl _)⟩
end Go.Proofs.Ytjohcjfmlhihbaa.G
namespace Go.Proofs.Ytjohcjfmlhihbaa.G
open Go.RowKit Go.Proofs.YtjohcjfmlhihbaaW.PrintWords Go.Proofs.YtjohcjfmlhihbaaW.PrintLast Go.Proofs.YtjohcjfmlhihbaaW.PrintMore
set_option maxHeartbeats 8000000
set_option maxRecDepth 100000
attribute [local go_sem] cond_true cond_false fld23_0 fld23_1 fld45_0 fld45_1 fld109_0 fld109_1 fld94_0 fld94_1 max2_int min2_int max_two min_two max_three min_three max_four min_four
def numnahref07_total.l0:Nat → List Int → Int → Int → Option (Int)
 | 0,_,_,_=>none
 | k + 1,x0,x3,x4=>if x4 < (x0.length:Int) then (if 0 ≤ x4 then (numnahref07_total.l0 k x0 (wrap64 (x3 + (rd x0 x4))) (wrap64 (x4 + 1))) else (none)) else (some x3)
def numnahref07_total.f (k:Nat) (l0:List Int):Option (Int):=numnahref07_total.l0 k l0 0 0
theorem numnahref07_total.mono_l:∀ k,(∀ y0 y1 y2,LeO (numnahref07_total.l0 k y0 y1 y2) (numnahref07_total.l0 (k + 1) y0 y1 y2))
 | 0=>fun _ _ _ r h=>by simp [numnahref07_total.l0] at h
 | k + 1=>by
  have b5:=numnahref07_total.mono_l k
  intro y0 y1 y2
  unfold numnahref07_total.l0
  repeat' first
  | (with_reducible first | exact b5 _ _ _ | exact LeO.refl _ | exact LeO.none _ | refine LeO.ite ?_ ?_ | refine LeO.bind ?_ (fun _=>?_))
  | exact LeO.none _ | refine LeO.ite ?_ ?_ | refine LeO.bind ?_ (fun _=>?_)
theorem numnahref07_total.mono:∀ a0 k,LeO (numnahref07_total.f k a0) (numnahref07_total.f (k + 1) a0):=by
 intro a0 k
 have b5:=numnahref07_total.mono_l k
 unfold numnahref07_total.f
 repeat' first
   | (with_reducible first | exact b5 _ _ _ | exact LeO.refl _ | exact LeO.none _ | refine LeO.ite ?_ ?_ | refine LeO.bind ?_ (fun _=>?_))
   | exact LeO.none _ | refine LeO.ite ?_ ?_ | refine LeO.bind ?_ (fun _=>?_)
theorem numnahref07_total.calls (k:Nat) (A0:Option Addr) (c0:Nat) (l0:List Int) (r:Int) (w:World) (b8:Kd.C (Kd.int .i64) w A0 l0.length l0) (b9:l0.length ≤ c0) (h:numnahref07_total.f k l0 = some r) :
  Calls Try.prog 65 #[.slice A0 l0.length c0] w fun e w'=>e = .returned (.int .i64 r) ∧ Drawn0 w w':=by
 have d1:=A_ b8
 have d3:=A_ b9
 clear b8 b9
 have H:(numnahref07_total.l0 k l0 0 0) = some r:=h
 clear h
 have H':=A_ H
 clear H
 go_enter Try.func65,Try.ntmps65
 go_wp2
 go_loopg [3,4] k (fun kq v3 v4 w'=>∃ (b1:Int) (b0:Int),v3 = .int .i64 b1 ∧ v4 = .int .i64 b0 ∧ Aside0 (numnahref07_total.l0 kq l0 b1 b0 = some r) ∧ Aside0 (kq ≤ k) ∧ Drawn0 w w')
 case atStart=>exact ⟨(0),(0),(by first | rfl | (simp;done) | (simp [*];done)),(by first | rfl | (simp;done) | (simp [*];done)),H',⟨Nat.le_refl _⟩,by repeat (first | exact Drawn0.refl _ | apply Drawn0.step)⟩
 case round =>
  clear H'
  obtain ⟨b1,b0,rfl,rfl,HA,c1,⟨m1,rfl⟩⟩:=hrel
  cases gk with
  | zero=>exact absurd HA.out (by simp [numnahref07_total.l0])
  | succ k1 =>
   have H:=HA.out
   clear HA
   simp only [numnahref07_total.l0] at H
   by_cases c2:b0 < (l0.length:Int)
   case neg =>
    rw [if_neg c2] at H
    have b6:=decide_eq_false c2
    clear c2
    obtain rfl:=Option.some.inj H
    go_wp2
    go_ret
    exact ⟨by first | rfl | (simp;done) | (simp [*];done),by repeat (first | exact Drawn0.refl _ | apply Drawn0.step)⟩
   rw [if_pos c2] at H
   have b6:=decide_eq_true c2
   clear c2
   replace H:=gd H
   obtain ⟨c3,H⟩:=H
   have d2:=decide_eq_true c3
   clear c3
   have H':=A_ H
   clear H
   have b2:0 ≤ (b0:Int):=of_decide_eq_true (by first | (with_reducible assumption) | assumption)
   have b3:b0 < (l0.length:Int):=of_decide_eq_true (by first | (with_reducible assumption) | assumption)
   obtain ⟨d0,b7,b4⟩:=Kd.at_int d1.out b0 b2 b3
   cases b7
   replace b2:=eq_true b2
   replace b3:=eq_true b3
   go_wp2
   go_roundg k1
   case measure=>have:=c1.out;omega
   case rel=>exact ⟨(wrap64 (b1 + (rd l0 b0))),(wrap64 (b0 + 1)),(by first | rfl | (simp;done) | (simp [*];done)),(by first | rfl | (simp;done) | (simp [*];done)),H',⟨by have:=c1.out;omega⟩,by repeat (first | exact Drawn0.refl _ | apply Drawn0.step)⟩
mutual
def numnahref07_Claims.j0:Nat → List Int → Int → Bool → Option (Bool)
 | 0,_,_,_=>none
 | k + 1,x0,x1,x13=>if x13 = true then (some false) else (numnahref07_Claims.l0 k x0 x1 0)
def numnahref07_Claims.l0:Nat → List Int → Int → Int → Option (Bool)
 | 0,_,_,_=>none
 | k + 1,x0,x1,x5=>if x5 < (x0.length:Int) then (if 0 ≤ x5 then (if (rd x0 x5) < 0 then (some false) else (if (rd x0 x5) > 1000 then (some false) else (numnahref07_Claims.l0 k x0 x1 (wrap64 (x5 + 1))))) else (none)) else (if x1 ≥ 0 then ((numnahref07_total.f k x0).bind fun d0=>(some (decide (x1 ≤ d0)))) else (some false))
end
def numnahref07_Claims.f (k:Nat) (l0:List Int) (a1:Int):Option (Bool):=if (l0.length:Int) < 1 then (numnahref07_Claims.j0 k l0 a1 true) else (numnahref07_Claims.j0 k l0 a1 (decide ((l0.length:Int) > 10)))
theorem numnahref07_Claims.mono_l:∀ k,(∀ y0 y1 y2,LeO (numnahref07_Claims.j0 k y0 y1 y2) (numnahref07_Claims.j0 (k + 1) y0 y1 y2)) ∧ (∀ y0 y1 y2,LeO (numnahref07_Claims.l0 k y0 y1 y2) (numnahref07_Claims.l0 (k + 1) y0 y1 y2))
 | 0=>⟨fun _ _ _ r h=>by simp [numnahref07_Claims.j0] at h,fun _ _ _ r h=>by simp [numnahref07_Claims.l0] at h⟩
 | k + 1=>by
  obtain ⟨d6,d7⟩:=numnahref07_Claims.mono_l k
  refine ⟨?_,?_⟩
  ·intro y0 y1 y2
   unfold numnahref07_Claims.j0
   repeat' first
   | (with_reducible first | exact d6 _ _ _ | exact d7 _ _ _ | exact numnahref07_total.mono _ _ | exact LeO.refl _ | exact LeO.none _ | refine LeO.ite ?_ ?_ | refine LeO.bind ?_ (fun _=>?_))
   | exact LeO.none _ | refine LeO.ite ?_ ?_ | refine LeO.bind ?_ (fun _=>?_)
  intro y0 y1 y2
  unfold numnahref07_Claims.l0
  repeat' first
  | (with_reducible first | exact d6 _ _ _ | exact d7 _ _ _ | exact numnahref07_total.mono _ _ | exact LeO.refl _ | exact LeO.none _ | refine LeO.ite ?_ ?_ | refine LeO.bind ?_ (fun _=>?_))
  | exact LeO.none _ | refine LeO.ite ?_ ?_ | refine LeO.bind ?_ (fun _=>?_)
theorem numnahref07_Claims.mono:∀ a0 a1 k,LeO (numnahref07_Claims.f k a0 a1) (numnahref07_Claims.f (k + 1) a0 a1):=by
 intro a0 a1 k
 obtain ⟨d6,d7⟩:=numnahref07_Claims.mono_l k
 unfold numnahref07_Claims.f
 repeat' first
   | (with_reducible first | exact d6 _ _ _ | exact d7 _ _ _ | exact numnahref07_total.mono _ _ | exact LeO.refl _ | exact LeO.none _ | refine LeO.ite ?_ ?_ | refine LeO.bind ?_ (fun _=>?_))
   | exact LeO.none _ | refine LeO.ite ?_ ?_ | refine LeO.bind ?_ (fun _=>?_)
theorem numnahref07_Claims.calls (k:Nat) (A0:Option Addr) (c0:Nat) (l0:List Int) (a1:Int) (r:Bool) (w:World) (e3:Kd.C (Kd.int .i64) w A0 l0.length l0) (e4:l0.length ≤ c0) (h:numnahref07_Claims.f k l0 a1 = some r) :
  Calls Try.prog 21 #[.slice A0 l0.length c0,.int .i64 a1] w fun e w'=>e = .returned (.bool r) ∧ Drawn0 w w':=by
 have d3:=A_ e3
 have e8:=A_ e4
 clear e3 e4
 have H:(if (l0.length:Int) < 1 then (numnahref07_Claims.j0 k l0 a1 true) else (numnahref07_Claims.j0 k l0 a1 (decide ((l0.length:Int) > 10)))) = some r:=h
 clear h
 have d8:=A_ H
 clear H
 go_enter Try.func21,Try.ntmps21
 go_upto_region 1 with (fail)
 go_cut [13] (fun e9 wc=>∃ (kq:Nat) (b5:Bool),e9 = .bool b5 ∧ Aside0 (numnahref07_Claims.j0 kq l0 a1 b5 = some r) ∧ Aside0 (kq ≤ k) ∧ Drawn0 w wc)
 case first =>
  have H:=d8.out
  clear d8
  by_cases c4:(l0.length:Int) < 1
  ·rw [if_pos c4] at H
   have b8:=decide_eq_true c4
   have d9:decide (l0.length < 1) = true:=decide_eq_true (by omega)
   clear c4
   (first | rw [b8] | (simp only [i64_w,i32_w];rw [b8]) | skip)
   have H':=A_ H
   clear H
   go_wp2
   go_meet
   case rel=>exact ⟨_,(true),(by first | rfl | (simp;done) | (simp [*];done)),H',⟨by first | omega | exact Nat.le_refl _⟩,by repeat (first | exact Drawn0.refl _ | apply Drawn0.step)⟩
  rw [if_neg c4] at H
  have b8:=decide_eq_false c4
  have d9:decide (l0.length < 1) = false:=decide_eq_false (by omega)
  clear c4
  (first | rw [b8] | (simp only [i64_w,i32_w];rw [b8]) | skip)
  have H':=A_ H
  clear H
  go_wp2
  go_meet
  case rel=>exact ⟨_,(decide ((l0.length:Int) > 10)),(by first | rfl | (simp;done) | (simp [*];done)),H',⟨by first | omega | exact Nat.le_refl _⟩,by repeat (first | exact Drawn0.refl _ | apply Drawn0.step)⟩
 case rest =>
  clear d8
  obtain ⟨kq,b5,rfl,HA,e5,⟨h2,rfl⟩⟩:=hcut
  cases kq with
  | zero=>exact absurd HA.out (by simp [numnahref07_Claims.j0])
  | succ e6 =>
   have H:=HA.out
   clear HA
   simp only [numnahref07_Claims.j0] at H
   by_cases c5:b5 = true
   ·subst c5
    rw [if_pos rfl] at H
    obtain rfl:=Option.some.inj H
    go_wp2
    go_ret
    exact ⟨by first | rfl | (simp;done) | (simp [*];done),by repeat (first | exact Drawn0.refl _ | apply Drawn0.step)⟩
   replace c5:=Bool.eq_false_iff.mpr c5
   subst c5
   rw [if_neg (show ¬ (false = true) by decide)] at H
   have H':=A_ H
   clear H
   go_wp2
   go_loopg [5] e6 (fun kq v5 w'=>∃ (b0:Int),v5 = .int .i64 b0 ∧ Aside0 (numnahref07_Claims.l0 kq l0 a1 b0 = some r) ∧ Aside0 (kq ≤ e6) ∧ Drawn0 w w')
   case atStart=>exact ⟨(0),(by first | rfl | (simp;done) | (simp [*];done)),H',⟨Nat.le_refl _⟩,by repeat (first | exact Drawn0.refl _ | apply Drawn0.step)⟩
   case round =>
    clear H'
    obtain ⟨b0,rfl,HA,e7,⟨m2,rfl⟩⟩:=hrel
    cases gk with
    | zero=>exact absurd HA.out (by simp [numnahref07_Claims.l0])
    | succ k2 =>
     have H:=HA.out
     clear HA
     simp only [numnahref07_Claims.l0] at H
     by_cases c6:b0 < (l0.length:Int)
     case neg =>
      rw [if_neg c6] at H
      have e0:=decide_eq_false c6
      clear c6
      by_cases c10:a1 ≥ 0
      case neg =>
       rw [if_neg c10] at H
       have d4:=decide_eq_false c10
       clear c10
       obtain rfl:=Option.some.inj H
       go_wp2
       go_ret
       exact ⟨by first | rfl | (simp;done) | (simp [*];done),by repeat (first | exact Drawn0.refl _ | apply Drawn0.step)⟩
      rw [if_pos c10] at H
      have d4:=decide_eq_true c10
      clear c10
      replace H:=Option.bind_eq_some_iff.mp H
      obtain ⟨d0,d5,H⟩:=H
      replace H:(some (decide (a1 ≤ d0))) = some r:=H
      have h0:=A_ d5
      clear d5
      obtain rfl:=Option.some.inj H
      go_wp2_with (first | (go_at_call 65;(with_reducible refine (numnahref07_total.calls k2 _ _ l0 d0 _ ?side1 ?side2 h0.out).mono ?_);(case side1=>repeat (first | exact d3.out | (with_reducible refine Kd.C_alloc ?_ _) | (with_reducible refine Kd.C_drewN ?_ _) | (with_reducible refine Kd.C_drew ?_)));(case side2=>exact e8.out);rintro e w' ⟨rfl,⟨nd,rfl⟩⟩))
      go_ret
      exact ⟨by first | rfl | (simp;done) | (simp [*];done),by repeat (first | exact Drawn0.refl _ | apply Drawn0.step)⟩
     rw [if_pos c6] at H
     have e0:=decide_eq_true c6
     clear c6
     replace H:=gd H
     obtain ⟨c7,H⟩:=H
     have h1:=decide_eq_true c7
     clear c7
     by_cases c8:(rd l0 b0) < 0
     ·rw [if_pos c8] at H
      have e1:=decide_eq_true c8
      clear c8
      obtain rfl:=Option.some.inj H
      have b1:0 ≤ (b0:Int):=of_decide_eq_true (by first | (with_reducible assumption) | assumption)
      have b2:b0 < (l0.length:Int):=of_decide_eq_true (by first | (with_reducible assumption) | assumption)
      obtain ⟨b6,b9,b7⟩:=Kd.at_int d3.out b0 b1 b2
      cases b9
      replace b1:=eq_true b1
      replace b2:=eq_true b2
      go_wp2
      go_ret
      exact ⟨by first | rfl | (simp;done) | (simp [*];done),by repeat (first | exact Drawn0.refl _ | apply Drawn0.step)⟩
     rw [if_neg c8] at H
     have e1:=decide_eq_false c8
     clear c8
     by_cases c9:(rd l0 b0) > 1000
     ·rw [if_pos c9] at H
      have e2:=decide_eq_true c9
      clear c9
      obtain rfl:=Option.some.inj H
      have b1:0 ≤ (b0:Int):=of_decide_eq_true (by first | (with_reducible assumption) | assumption)
      have b2:b0 < (l0.length:Int):=of_decide_eq_true (by first | (with_reducible assumption) | assumption)
      obtain ⟨b6,b9,b7⟩:=Kd.at_int d3.out b0 b1 b2
      cases b9
      replace b1:=eq_true b1
      replace b2:=eq_true b2
      have b3:0 ≤ (b0:Int):=of_decide_eq_true (by first | (with_reducible assumption) | assumption)
      have b4:b0 < (l0.length:Int):=of_decide_eq_true (by first | (with_reducible assumption) | assumption)
      obtain ⟨c1,d2,d1⟩:=Kd.at_int d3.out b0 b3 b4
      obtain rfl:b6 = c1:=(by injection d2)
      replace b3:=eq_true b3
      replace b4:=eq_true b4
      go_wp2
      go_ret
      exact ⟨by first | rfl | (simp;done) | (simp [*];done),by repeat (first | exact Drawn0.refl _ | apply Drawn0.step)⟩
     rw [if_neg c9] at H
     have e2:=decide_eq_false c9
     clear c9
     have H':=A_ H
     clear H
     have b1:0 ≤ (b0:Int):=of_decide_eq_true (by first | (with_reducible assumption) | assumption)
     have b2:b0 < (l0.length:Int):=of_decide_eq_true (by first | (with_reducible assumption) | assumption)
     obtain ⟨b6,b9,b7⟩:=Kd.at_int d3.out b0 b1 b2
     cases b9
     replace b1:=eq_true b1
     replace b2:=eq_true b2
     have b3:0 ≤ (b0:Int):=of_decide_eq_true (by first | (with_reducible assumption) | assumption)
     have b4:b0 < (l0.length:Int):=of_decide_eq_true (by first | (with_reducible assumption) | assumption)
     obtain ⟨c1,d2,d1⟩:=Kd.at_int d3.out b0 b3 b4
     obtain rfl:b6 = c1:=(by injection d2)
     replace b3:=eq_true b3
     replace b4:=eq_true b4
     go_wp2
     go_roundg k2
     case measure=>have:=e5.out;have:=e7.out;omega
     case rel=>exact ⟨(wrap64 (b0 + 1)),(by first | rfl | (simp;done) | (simp [*];done)),H',⟨by have:=e5.out;have:=e7.out;omega⟩,by repeat (first | exact Drawn0.refl _ | apply Drawn0.step)⟩
end Go.Proofs.Ytjohcjfmlhihbaa.G
namespace Go.Proofs.Ytjohcjfmlhihbaa.P
open Go Go.RowKit Go.Proofs.Ytjohcjfmlhihbaa.G
open Go.Proofs.YtjohcjfmlhihbaaW.PrintWords Go.Proofs.YtjohcjfmlhihbaaW.PrintMore
theorem rd_get {l:List Int} {i:Nat} (h:i < l.length):rd l (i:Int) = l[i]:=by unfold rd;simp [h]
theorem wrap_succ {i:Nat} (h:i < 9223372036854775807):wrap64 ((i:Int) + 1) = ((i + 1:Nat):Int):=by unfold wrap64;omega
def sI (l:List Int):Int:=l.foldr (· + ·) 0
theorem sI_cons (a:Int) (l:List Int):sI (a :: l) = a + sI l:=rfl
theorem sI_append (l m:List Int):sI (l ++ m) = sI l + sI m:=by
 induction l with
 | nil=>simp [sI]
 | cons a l ih=>rw [List.cons_append,sI_cons,sI_cons,ih];omega
theorem sI_bound {l:List Int} (h:∀ x ∈ l,0 ≤ x ∧ x ≤ 1000):0 ≤ sI l ∧ sI l ≤ 1000 * (l.length:Int):=by
 induction l with
 | nil=>simp [sI]
 | cons a l ih =>
  have h1:=h a (by simp)
  have h2:=ih (fun x hx=>h x (List.mem_cons_of_mem _ hx))
  rw [sI_cons,List.length_cons]
  omega
section
variable {l:List Int} (hb:∀ x ∈ l,0 ≤ x ∧ x ≤ 1000) (hl:l.length ≤ 1000000)
include hb hl
theorem total_l0:∀ (d i:Nat),i + d = l.length → Ev (fun k=>shares_total.l0 k (sI (l.take i)) l (l.length:Int) (i:Int)) (sI l):=by
 intro d
 induction d with
 | zero =>
  intro i hi
  refine Ev.step (f:=fun _=>some (sI l)) (fun k=>?_) (Ev.now _)
  rw [shares_total.l0,if_neg (by omega),List.take_of_length_le (by omega)]
 | succ d ih =>
  intro i hi
  have hil:i < l.length:=by omega
  refine Ev.step (fun k=>?_) (ih (i + 1) (by omega))
  have h1:=(sI_bound (l:=l.take (i + 1)) (fun x hx=>hb x (List.mem_of_mem_take hx)))
  have h2:(l.take (i + 1)).length ≤ 1000000:=by rw [List.length_take];omega
  have e:sI (l.take i) + l[i] = sI (l.take (i + 1)):=by rw [List.take_succ_eq_append_getElem hil,sI_append];simp [sI]
  rw [shares_total.l0,if_pos (by omega),if_pos (by omega),if_pos (by omega),rd_get hil,e,wrap_id (by omega) (by omega),wrap_succ (by omega)]
theorem ev_total:Ev (fun k=>shares_total.f k l) (sI l):=total_l0 hb hl l.length 0 (by omega)
theorem rtotal_l0:∀ (d i:Nat),i + d = l.length → Ev (fun k=>numnahref07_total.l0 k l (sI (l.take i)) (i:Int)) (sI l):=by
 intro d
 induction d with
 | zero =>
  intro i hi
  refine Ev.step (f:=fun _=>some (sI l)) (fun k=>?_) (Ev.now _)
  rw [numnahref07_total.l0,if_neg (by omega),List.take_of_length_le (by omega)]
 | succ d ih =>
  intro i hi
  have hil:i < l.length:=by omega
  refine Ev.step (fun k=>?_) (ih (i + 1) (by omega))
  have h1:=(sI_bound (l:=l.take (i + 1)) (fun x hx=>hb x (List.mem_of_mem_take hx)))
  have h2:(l.take (i + 1)).length ≤ 1000000:=by rw [List.length_take];omega
  have e:sI (l.take i) + l[i] = sI (l.take (i + 1)):=by rw [List.take_succ_eq_append_getElem hil,sI_append];simp [sI]
  rw [numnahref07_total.l0,if_pos (by omega),if_pos (by omega),rd_get hil,e,wrap_id (by omega) (by omega),wrap_succ (by omega)]
theorem ev_rtotal:Ev (fun k=>numnahref07_total.f k l) (sI l):=rtotal_l0 hb hl l.length 0 (by omega)
end
structure IsCl (l:List Int):Prop where
 one:1 ≤ l.length
 ten:l.length ≤ 10
 mem:∀ x ∈ l,0 ≤ x ∧ x ≤ 1000
instance (l:List Int):Decidable (IsCl l):=decidable_of_iff (1 ≤ l.length ∧ l.length ≤ 10 ∧ ∀ x ∈ l,0 ≤ x ∧ x ≤ 1000) ⟨fun h=>⟨h.1,h.2.1,h.2.2⟩,fun h=>⟨h.1,h.2,h.3⟩⟩
def clB (l:List Int) (e:Int):Bool:=decide (IsCl l ∧ 0 ≤ e ∧ e ≤ sI l)
theorem areClaims_eq {l:List Int} (hf:H.fitL l):shares_areClaims.f l = some (decide (IsCl l)):=by
 unfold shares_areClaims.f shares_within.f contains119.f
 rw [if_pos hf]
 simp only [Option.bind_some]
 by_cases h1:(l.length:Int) ≥ 1
 ·rw [if_pos h1]
  simp only [Option.bind_some]
  by_cases h2:(l.length:Int) ≤ 10
  ·rw [if_pos (decide_eq_true h2)]
   congr 1
   by_cases h3:∀ x ∈ l,0 ≤ x ∧ x ≤ 1000
   ·rw [decide_eq_true (⟨by omega,by omega,h3⟩:IsCl l)]
    rw [Bool.not_eq_true',List.any_eq_false]
    intro x hx
    simpa using h3 x hx
   ·rw [decide_eq_false (fun h:IsCl l=>h3 h.mem)]
    rw [Bool.not_eq_false',List.any_eq_true]
    apply Classical.byContradiction
    intro hno
    refine h3 fun x hx=>Classical.byContradiction fun hx2=>hno ⟨x,hx,?_⟩
    rw [Bool.not_eq_true',decide_eq_false_iff_not]
    exact hx2
  ·rw [if_neg (by simpa using h2),decide_eq_false (fun h:IsCl l=>h2 (by have:=h.ten;omega))]
 ·rw [if_neg h1]
  simp only [Option.bind_some]
  rw [if_neg (by decide),decide_eq_false (fun h:IsCl l=>h1 (by have:=h.one;omega))]
theorem ev_newClaims {l:List Int} (hf:H.fitL l) (e:Int):Ev (fun k=>newClaimsR.f k l e) (clB l e):=by
 unfold newClaimsR.f shares_newClaims.f
 rw [areClaims_eq hf]
 simp only [Option.bind_some]
 unfold clB
 by_cases h:IsCl l
 ·simp only [h,decide_true,if_true,true_and]
  obtain ⟨K,hK⟩:=ev_total h.mem (by have:=h.ten;omega)
  refine ⟨K,fun k hk=>?_⟩
  have hk':shares_total.f k l = some (sI l):=hK k hk
  show Option.map _ _ = _
  rw [hk']
  simp only [Option.bind_some,shares_within.f]
  by_cases h0:e ≥ 0
  ·rw [if_pos h0]
   simp only [Option.bind_some,Option.map_some]
   congr 1
   rw [Bool.eq_iff_iff,decide_eq_true_iff,decide_eq_true_iff]
   exact ⟨fun k=>⟨h0,k⟩,fun k=>k.2⟩
  ·rw [if_neg h0]
   simp only [Option.bind_some,Option.map_some]
   rw [decide_eq_false (fun k=>h0 k.1)]
 ·refine ⟨0,fun k _=>?_⟩
  simp [h]
theorem rclaims_l0 {l:List Int} (hl:1 ≤ l.length ∧ l.length ≤ 10) (e:Int):∀ (d i:Nat),i + d = l.length → (∀ x ∈ l.take i,0 ≤ x ∧ x ≤ 1000) → Ev (fun k=>numnahref07_Claims.l0 k l e (i:Int)) (clB l e):=by
 intro d
 induction d with
 | zero =>
  intro i hi hm
  rw [List.take_of_length_le (by omega)] at hm
  have hc:IsCl l:=⟨hl.1,hl.2,hm⟩
  unfold clB
  simp only [hc,true_and]
  by_cases h0:e ≥ 0
  ·refine Ev.step (f:=fun k=>(numnahref07_total.f k l).bind fun t=>some (decide (e ≤ t))) (fun k=>?_) (Ev.bind (ev_rtotal hm (by omega)) ?_)
   ·rw [numnahref07_Claims.l0,if_neg (by omega),if_pos h0]
   ·have:decide (0 ≤ e ∧ e ≤ sI l) = decide (e ≤ sI l):=by
     rw [Bool.eq_iff_iff,decide_eq_true_iff,decide_eq_true_iff]
     exact ⟨fun k=>k.2,fun k=>⟨h0,k⟩⟩
    rw [this]
    exact Ev.now _
  ·refine Ev.step (f:=fun _=>some false) (fun k=>?_) ?_
   ·rw [numnahref07_Claims.l0,if_neg (by omega),if_neg h0]
   ·rw [decide_eq_false (fun k=>h0 k.1)]
    exact Ev.now _
 | succ d ih =>
  intro i hi hm
  have hil:i < l.length:=by omega
  by_cases g:0 ≤ l[i] ∧ l[i] ≤ 1000
  ·refine Ev.step (fun k=>?_) (ih (i + 1) (by omega) (fun x hx=>?_))
   ·rw [numnahref07_Claims.l0,if_pos (by omega),if_pos (by omega),rd_get hil,if_neg (by omega),if_neg (by omega),wrap_succ (by omega)]
   ·rw [List.take_succ_eq_append_getElem hil,List.mem_append] at hx
    rcases hx with hx | hx
    ·exact hm x hx
    ·rw [List.mem_singleton] at hx
     rw [hx];exact g
  ·have hc:clB l e = false:=decide_eq_false (fun h=>g (h.1.mem _ (List.getElem_mem hil)))
   rw [hc]
   refine Ev.step (f:=fun _=>some false) (fun k=>?_) (Ev.now _)
   rw [numnahref07_Claims.l0,if_pos (by omega),if_pos (by omega),rd_get hil]
   by_cases g1:l[i] < 0
   ·rw [if_pos g1]
   ·rw [if_neg g1,if_pos (by omega)]
theorem ev_rclaims (l:List Int) (e:Int):Ev (fun k=>numnahref07_Claims.f k l e) (clB l e):=by
 unfold numnahref07_Claims.f
 by_cases h1:(l.length:Int) < 1
 ·simp only [if_pos h1]
  have hc:clB l e = false:=decide_eq_false (fun h=>by have:=h.1.one;omega)
  rw [hc]
  exact Ev.step (f:=fun _=>some false) (fun k=>by rw [numnahref07_Claims.j0,if_pos rfl]) (Ev.now _)
 ·simp only [if_neg h1]
  by_cases h2:(l.length:Int) > 10
  ·have hc:clB l e = false:=decide_eq_false (fun h=>by have:=h.1.ten;omega)
   rw [hc,decide_eq_true h2]
   exact Ev.step (f:=fun _=>some false) (fun k=>by rw [numnahref07_Claims.j0,if_pos rfl]) (Ev.now _)
  ·rw [decide_eq_false h2]
   refine Ev.step (fun k=>by rw [numnahref07_Claims.j0,if_neg (by decide)];rfl) (rclaims_l0 (by omega) e l.length 0 (by omega) (by simp))
end Go.Proofs.Ytjohcjfmlhihbaa.P
namespace Go.Proofs.Ytjohcjfmlhihbaa.G
open Go.RowKit Go.Proofs.YtjohcjfmlhihbaaW.PrintWords Go.Proofs.YtjohcjfmlhihbaaW.PrintLast Go.Proofs.YtjohcjfmlhihbaaW.PrintMore
set_option maxHeartbeats 8000000
set_option maxRecDepth 100000
attribute [local go_sem] cond_true cond_false fld23_0 fld23_1 fld45_0 fld45_1 fld109_0 fld109_1 fld94_0 fld94_1 max2_int min2_int max_two min_two max_three min_three max_four min_four   -- for this text's walks alone
def numnahref07_Whole.f (a0:Int):Option (Int × Int):=some (a0,1)
theorem numnahref07_Whole.calls (a0:Int) (r1:Int) (r2:Int) (w:World) (h:numnahref07_Whole.f a0 = some (r1,r2)) :
  Calls Try.prog 23 #[.int .i64 a0] w fun e w'=>e = .returned (.agg #[.int .i64 r1,.int .i64 r2]) ∧ Below w.heap.size w w':=by
 have d0:=Try.underlying23
 have HB:=Aside0.mk (Below.refl w.heap.size w)
 have H:(some (a0,1)) = some (r1,r2):=h
 clear h
 simp only [Option.some.injEq,Prod.mk.injEq] at H
 obtain ⟨rfl,rfl⟩:=H
 go_enter Try.func23,Try.ntmps23
 go_wp2_with (first | ((with_reducible refine gate_dst (N:=2) rfl ?_);refine box_event ?hg (N:=2) ?hd (cs:=#[.int .i64 0,.int .i64 0]) (t:=23) ?hr ?_;(case hd=>rfl);(case hg=>rfl);(case hr=>first | (go_simp;done) | (go_simp;rfl));intro b0 hg w2 hbox hb;have b7:=Aside0.mk (below_step (by repeat (first | (with_reducible first | exact HB.out | apply below_alloc | apply pw_below_drewN | apply below_drew1) | exact HB.out)) hb);have b8:=Aside0.mk (hbox);have b9:=Aside0.mk ((by rw [hg];exact (below_size (by repeat (first | (with_reducible first | exact HB.out | apply below_alloc | apply pw_below_drewN | apply below_drew1) | exact HB.out))):w.heap.size ≤ b0));have c0:=Aside0.mk ((by rw [hg];exact (below_size (by repeat (first | (with_reducible first | exact HB.out | apply below_alloc | apply pw_below_drewN | apply below_drew1) | exact HB.out))):w.heap.size ≤ b0));clear HB;have HB:=b7;have b1:=b8;have c1:=b9;have b2:=c0;clear b7 b8 b9 c0;clear hb hbox hg;have b3:w2.cell? ⟨b0,0,none⟩ = some (.int .i64 0):=(blk_cell b1.out 0).trans rfl;have b4:w2.cell? ⟨b0,1,none⟩ = some (.int .i64 0):=(blk_cell b1.out 1).trans rfl;have b5:=blk_frozen b1.out 0;have b6:=blk_frozen b1.out 1))
 refine bodyPost_ret (results_cell_row rfl _ _ b0 23 #[.int .i64 a0,.int .i64 1] (0,0) _ rfl (by (with_reducible repeat (first | refine blk_drewN ?_ _ | refine blk_drew ?_ | refine blk_alloc ?_ _));refine blk_put (cs:=#[.int .i64 a0,.int .i64 0]) ?_ 1 _ rfl;(with_reducible repeat (first | refine blk_drewN ?_ _ | refine blk_drew ?_ | refine blk_alloc ?_ _));refine blk_put (cs:=#[.int .i64 0,.int .i64 0]) ?_ 0 _ rfl;(with_reducible repeat (first | refine blk_drewN ?_ _ | refine blk_drew ?_ | refine blk_alloc ?_ _));exact b1.out) Try.underlying23 rfl (by kernel_rfl)) rfl ?_
 exact ⟨by first | rfl | (simp [errW_none,errW_some] <;> rfl) | (simp [*,errW_none,errW_some] <;> rfl),by repeat (first | (with_reducible first | exact HB.out | apply below_alloc | apply pw_below_drewN | apply below_drew1 | refine below_set ?_ b2.out) | exact HB.out)⟩
end Go.Proofs.Ytjohcjfmlhihbaa.G
namespace Go.Proofs.Ytjohcjfmlhihbaa.G
open Go.RowKit Go.Proofs.YtjohcjfmlhihbaaW.PrintWords Go.Proofs.YtjohcjfmlhihbaaW.PrintLast Go.Proofs.YtjohcjfmlhihbaaW.PrintMore
set_option maxHeartbeats 8000000
set_option maxRecDepth 100000
attribute [local go_sem] cond_true cond_false fld23_0 fld23_1 fld45_0 fld45_1 fld109_0 fld109_1 fld94_0 fld94_1 max2_int min2_int max_two min_two max_three min_three max_four min_four
def numnahref07_rest.f (k:Nat) (b3:Int) (b4:Int) (a1:Int):Option (Int × Int):=(numnahref07_Whole.f a1).bind fun c1=>((numnahref07_Less.f c1.1 c1.2 b3 b4).bind fun d0=>(if d0 = true then ((numnahref07_Whole.f a1).bind fun b7=>((numnahref07_Sub.f k b3 b4 b7.1 b7.2).bind fun b8=>(some (b8.1,b8.2)))) else ((numnahref07_Whole.f 0).bind fun b9=>(some (b9.1,b9.2)))))
theorem numnahref07_rest.mono:∀ a0 a1 a2 k,LeO (numnahref07_rest.f k a0 a1 a2) (numnahref07_rest.f (k + 1) a0 a1 a2):=by
 intro a0 a1 a2 k
 unfold numnahref07_rest.f
 repeat' first
   | (with_reducible first | exact numnahref07_Sub.mono _ _ _ _ _ | exact LeO.refl _ | exact LeO.none _ | refine LeO.ite ?_ ?_ | refine LeO.bind ?_ (fun _=>?_))
   | exact LeO.none _ | refine LeO.ite ?_ ?_ | refine LeO.bind ?_ (fun _=>?_)
theorem numnahref07_rest.calls (k:Nat) (b3:Int) (b4:Int) (a1:Int) (r1:Int) (r2:Int) (w:World) (h:numnahref07_rest.f k b3 b4 a1 = some (r1,r2)) :
  Calls Try.prog 66 #[.agg #[.int .i64 b3,.int .i64 b4],.int .i64 a1] w fun e w'=>e = .returned (.agg #[.int .i64 r1,.int .i64 r2]) ∧ Below w.heap.size w w':=by
 have h8:=Try.underlying23
 have HB:=A_ (Below.refl w.heap.size w)
 have H:((numnahref07_Whole.f a1).bind fun c1=>((numnahref07_Less.f c1.1 c1.2 b3 b4).bind fun d0=>(if d0 = true then ((numnahref07_Whole.f a1).bind fun b7=>((numnahref07_Sub.f k b3 b4 b7.1 b7.2).bind fun b8=>(some (b8.1,b8.2)))) else ((numnahref07_Whole.f 0).bind fun b9=>(some (b9.1,b9.2)))))) = some (r1,r2):=h
 clear h
 replace H:=Option.bind_eq_some_iff.mp H
 obtain ⟨⟨d1,d2⟩,A30,H⟩:=H
 dsimp only at H
 have A3:=A_ A30
 clear A30
 replace H:=Option.bind_eq_some_iff.mp H
 obtain ⟨d0,h1,H⟩:=H
 replace H:(if d0 = true then ((numnahref07_Whole.f a1).bind fun b7=>((numnahref07_Sub.f k b3 b4 b7.1 b7.2).bind fun b8=>(some (b8.1,b8.2)))) else ((numnahref07_Whole.f 0).bind fun b9=>(some (b9.1,b9.2)))) = some (r1,r2):=H
 have A4:=A_ h1
 clear h1
 by_cases c5:d0 = true
 case neg =>
  replace c5:=Bool.eq_false_iff.mpr c5
  subst c5
  rw [if_neg (show ¬ (false = true) by decide)] at H
  replace H:=Option.bind_eq_some_iff.mp H
  obtain ⟨⟨d5,d9⟩,A180,H⟩:=H
  dsimp only at H
  have h9:=A_ A180
  clear A180
  simp only [Option.some.injEq,Prod.mk.injEq] at H
  obtain ⟨rfl,rfl⟩:=H
  go_enter Try.func66,Try.ntmps66
  try go_wp2_with (first | ((with_reducible refine gate_dst (N:=2) rfl ?_);refine bx 2 #[.int .i64 b3,.int .i64 b4] 23 ?_;intro c0 hg i4 hbox hb;have b0:=A_ hbox;have d3:=gw hg HB;have e0:=d3;replace HB:=bB HB hb;clear hb hbox hg) | ((with_reducible refine gate_dst (N:=4) rfl ?_);refine bx 4 #[.int .i64 0,.int .i64 0] 23 ?_;intro b5 hg i0 hbox hb;have b1:=A_ hbox;have d4:=gw hg HB;have e1:=d4;have b2:=nl hg b0;have b6:=ng hg b0;replace b0:=kB b0 hb;replace HB:=bB HB hb;clear hb hbox hg))
  replace b0:=kD b0
  replace b1:=kD b1
  replace HB:=bD HB
  refine start_ (n:=4) (S:=fun w'=>w'.cell? ⟨c0,0,none⟩ = some (.int .i64 b3) ∧ w'.cell? ⟨c0,1,none⟩ = some (.int .i64 b4)) (ds:=[]) (ba 4 0) (by kernel_rfl) rfl rfl ⟨cz b0 0,cz b0 1⟩ (fun hHeld=>?_)
  generalize i0.drew = i5 at b0 b1 HB hHeld ⊢
  refine pr 0 5 1 ?_
  refine tr 2 7 5 hHeld ?_
  refine os 1 6 7 (fun K hK=>?_)
  refine gq Try.func23 #[.int .i64 a1] ?_
  with_reducible refine (numnahref07_Whole.calls a1 d1 d2 _ A3.out).mono ?_
  rintro e i6 ⟨rfl,hb⟩
  refine ⟨_,rfl,?_⟩
  replace b0:=kB b0 hb
  replace b1:=kB b1 hb
  replace HB:=bB HB hb
  (try clear hb)
  refine hz hK (fun hHeld=>?_)
  clear hK K
  refine nq 6 ?_
  refine os 3 8 15 (fun K hK=>?_)
  refine gq Try.func30 #[.agg #[.int .i64 d1,.int .i64 d2],.agg #[.int .i64 b3,.int .i64 b4]] ?_
  with_reducible refine (numnahref07_Less.calls d1 d2 b3 b4 false _ A4.out).mono ?_
  rintro e i7 ⟨rfl,hb⟩
  refine ⟨_,rfl,?_⟩
  replace b0:=kB b0 hb
  replace b1:=kB b1 hb
  replace HB:=bB HB hb
  (try clear hb)
  refine hz hK (fun hHeld=>?_)
  clear hK K
  refine nq 8 ?_
  refine done_ (by kernel_rfl) ?_
  try go_wp2_with (first | ((with_reducible refine gate_callee (f:=23) rfl ?_);refine gL (some 13) Try.func23 #[.int .i64 0] ?_;(with_reducible refine (numnahref07_Whole.calls 0 d5 d9 _ h9.out).mono ?_);rintro e h2 ⟨rfl,hb⟩;refine ⟨_,rfl,?_⟩;replace b0:=kB b0 hb;replace b1:=kB b1 hb;replace HB:=bB HB hb;(try clear hb);have h3:=b6.out;have h4:=b2.out;have e3:h2.cell? ⟨b5,0,none⟩ = some (.int .i64 0):=cz b1 0;have e4:h2.cell? ⟨b5,1,none⟩ = some (.int .i64 0):=cz b1 1;have e5:=blk_frozen b1.out 0;have e6:=blk_frozen b1.out 1))
  refine bodyPost_ret (results_cell_row rfl _ _ b5 23 #[.int .i64 d5,.int .i64 d9] (0,0) _ rfl (by (with_reducible repeat (first | refine blk_drewN ?_ _ | refine blk_drew ?_ | refine blk_alloc ?_ _));refine blk_put (cs:=#[.int .i64 d5,.int .i64 0]) ?_ 1 _ rfl;(with_reducible repeat (first | refine blk_drewN ?_ _ | refine blk_drew ?_ | refine blk_alloc ?_ _));refine blk_put (cs:=#[.int .i64 0,.int .i64 0]) ?_ 0 _ rfl;(with_reducible repeat (first | refine blk_drewN ?_ _ | refine blk_drew ?_ | refine blk_alloc ?_ _));exact b1.out) Try.underlying23 rfl (by kernel_rfl)) rfl ?_
  exact ⟨rfl,bl HB⟩
 subst c5
 rw [if_pos rfl] at H
 replace H:=Option.bind_eq_some_iff.mp H
 obtain ⟨⟨d6,d7⟩,A60,H⟩:=H
 dsimp only at H
 have A6:=A_ A60
 clear A60
 replace H:=Option.bind_eq_some_iff.mp H
 obtain ⟨⟨d8,e2⟩,A70,H⟩:=H
 dsimp only at H
 have A7:=A_ A70
 clear A70
 simp only [Option.some.injEq,Prod.mk.injEq] at H
 obtain ⟨rfl,rfl⟩:=H
 go_enter Try.func66,Try.ntmps66
 try go_wp2_with (first | ((with_reducible refine gate_dst (N:=2) rfl ?_);refine bx 2 #[.int .i64 b3,.int .i64 b4] 23 ?_;intro c0 hg w8 hbox hb;have b0:=A_ hbox;have d3:=gw hg HB;have e0:=d3;replace HB:=bB HB hb;clear hb hbox hg) | ((with_reducible refine gate_dst (N:=4) rfl ?_);refine bx 4 #[.int .i64 0,.int .i64 0] 23 ?_;intro b5 hg w9 hbox hb;have b1:=A_ hbox;have d4:=gw hg HB;have e1:=d4;have b2:=nl hg b0;have b6:=ng hg b0;replace b0:=kB b0 hb;replace HB:=bB HB hb;clear hb hbox hg))
 replace b0:=kD b0
 replace b1:=kD b1
 replace HB:=bD HB
 refine start_ (n:=4) (S:=fun w'=>w'.cell? ⟨c0,0,none⟩ = some (.int .i64 b3) ∧ w'.cell? ⟨c0,1,none⟩ = some (.int .i64 b4)) (ds:=[]) (ba 4 0) (by kernel_rfl) rfl rfl ⟨cz b0 0,cz b0 1⟩ (fun hHeld=>?_)
 generalize w9.drew = i8 at b0 b1 HB hHeld ⊢
 refine pr 0 5 1 ?_
 refine tr 2 7 5 hHeld ?_
 refine os 1 6 7 (fun K hK=>?_)
 refine gq Try.func23 #[.int .i64 a1] ?_
 with_reducible refine (numnahref07_Whole.calls a1 d1 d2 _ A3.out).mono ?_
 rintro e i9 ⟨rfl,hb⟩
 refine ⟨_,rfl,?_⟩
 replace b0:=kB b0 hb
 replace b1:=kB b1 hb
 replace HB:=bB HB hb
 (try clear hb)
 refine hz hK (fun hHeld=>?_)
 clear hK K
 refine nq 6 ?_
 refine os 3 8 15 (fun K hK=>?_)
 refine gq Try.func30 #[.agg #[.int .i64 d1,.int .i64 d2],.agg #[.int .i64 b3,.int .i64 b4]] ?_
 with_reducible refine (numnahref07_Less.calls d1 d2 b3 b4 true _ A4.out).mono ?_
 rintro e i1 ⟨rfl,hb⟩
 refine ⟨_,rfl,?_⟩
 replace b0:=kB b0 hb
 replace b1:=kB b1 hb
 replace HB:=bB HB hb
 (try clear hb)
 refine hz hK (fun hHeld=>?_)
 clear hK K
 refine nq 8 ?_
 refine done_ (by kernel_rfl) ?_
 try go_wp2
 replace b0:=kD b0
 replace b1:=kD b1
 replace HB:=bD HB
 refine start_ (n:=5) (S:=fun w'=>w'.cell? ⟨c0,0,none⟩ = some (.int .i64 b3) ∧ w'.cell? ⟨c0,1,none⟩ = some (.int .i64 b4)) (ds:=[]) (ba 5 0) (by kernel_rfl) rfl rfl ⟨cz b0 0,cz b0 1⟩ (fun hHeld=>?_)
 generalize i1.drew = j5 at b0 b1 HB hHeld ⊢
 refine pr 1 10 2 ?_
 refine tr 0 9 3 hHeld ?_
 refine os 2 11 7 (fun K hK=>?_)
 refine gq Try.func23 #[.int .i64 a1] ?_
 with_reducible refine (numnahref07_Whole.calls a1 d6 d7 _ A6.out).mono ?_
 rintro e j7 ⟨rfl,hb⟩
 refine ⟨_,rfl,?_⟩
 replace b0:=kB b0 hb
 replace b1:=kB b1 hb
 replace HB:=bB HB hb
 (try clear hb)
 refine hz hK (fun hHeld=>?_)
 clear hK K
 refine nq 11 ?_
 refine os 3 12 15 (fun K hK=>?_)
 refine gq Try.func31 #[.agg #[.int .i64 b3,.int .i64 b4],.agg #[.int .i64 d6,.int .i64 d7]] ?_
 with_reducible refine (numnahref07_Sub.calls k b3 b4 d6 d7 d8 e2 _ A7.out).mono ?_
 rintro e h5 ⟨rfl,hb⟩
 refine ⟨_,rfl,?_⟩
 replace b0:=kB b0 hb
 replace b1:=kB b1 hb
 replace HB:=bB HB hb
 (try clear hb)
 refine hz hK (fun hHeld=>?_)
 clear hK K
 refine nq 12 ?_
 refine one_ (i:=4) (N:=none) (ba 5 31) rfl rfl (by kernel_rfl) (by decide) (fun K hK=>?_)
 have i2:h5.cell? ⟨b5,0,none⟩ = some (.int .i64 0):=cz b1 0
 have h6:=blk_frozen b1.out 0
 have e7:=b2.out
 have e8:=b6.out
 have i3:h5.cell? ⟨b5,1,none⟩ = some (.int .i64 0):=cz b1 1
 have h7:=blk_frozen b1.out 1
 have e9:=b2.out
 have h0:=b6.out
 refine skip_ (w1:=?_) (by rfl) rfl ?_ ?_
 rotate_left
 ·go_simp
  rfl
 refine hK.out _ _ ⟨((cell_far (p:=⟨b5,_,none⟩) b2.out _).trans (((cell_far (p:=⟨b5,_,none⟩) b2.out _).trans (hHeld.1)))),((cell_far (p:=⟨b5,_,none⟩) b2.out _).trans (((cell_far (p:=⟨b5,_,none⟩) b2.out _).trans (hHeld.2))))⟩ (fun hHeld=>?_)
 clear hK K
 refine done_ (by kernel_rfl) ?_
 try go_wp2
 refine bodyPost_ret (results_cell_row rfl _ _ b5 23 #[.int .i64 d8,.int .i64 e2] (0,0) _ rfl (by (with_reducible repeat (first | refine blk_drewN ?_ _ | refine blk_drew ?_ | refine blk_alloc ?_ _));refine blk_put (cs:=#[.int .i64 d8,.int .i64 0]) ?_ 1 _ rfl;(with_reducible repeat (first | refine blk_drewN ?_ _ | refine blk_drew ?_ | refine blk_alloc ?_ _));refine blk_put (cs:=#[.int .i64 0,.int .i64 0]) ?_ 0 _ rfl;(with_reducible repeat (first | refine blk_drewN ?_ _ | refine blk_drew ?_ | refine blk_alloc ?_ _));exact b1.out) Try.underlying23 rfl (by kernel_rfl)) rfl ?_
 exact ⟨rfl,bl HB⟩
def numnahref07_Garment.f (k:Nat) (d6:Int) (d7:Int) (a1:Int) (a2:Int):Option (Int × Int):=(numnahref07_rest.f k d6 d7 a2).bind fun h1=>((numnahref07_rest.f k d6 d7 a1).bind fun i5=>((numnahref07_Sub.f k d6 d7 h1.1 h1.2).bind fun i6=>((numnahref07_Sub.f k i6.1 i6.2 i5.1 i5.2).bind fun i7=>((numnahref07_Half.f k i7.1 i7.2).bind fun i8=>((numnahref07_Add.f k h1.1 h1.2 i8.1 i8.2).bind fun i9=>(some (i9.1,i9.2)))))))
theorem numnahref07_Garment.mono:∀ a0 a1 a2 a3 k,LeO (numnahref07_Garment.f k a0 a1 a2 a3) (numnahref07_Garment.f (k + 1) a0 a1 a2 a3):=by
 intro a0 a1 a2 a3 k
 unfold numnahref07_Garment.f
 repeat' first
   | (with_reducible first | exact numnahref07_Add.mono _ _ _ _ _ | exact numnahref07_Half.mono _ _ _ | exact numnahref07_Sub.mono _ _ _ _ _ | exact numnahref07_rest.mono _ _ _ _ | exact LeO.refl _ | exact LeO.none _ | refine LeO.ite ?_ ?_ | refine LeO.bind ?_ (fun _=>?_))
   | exact LeO.none _ | refine LeO.ite ?_ ?_ | refine LeO.bind ?_ (fun _=>?_)
def numnahref07_Garment.T1:Bool × List (List Nat × List Nat):=(true,[([],[]),([],[]),([0,1],[0,1]),([],[]),([],[]),([3,4,2],[3,4]),([],[]),([],[]),([6,2,5,0,1,2,6,7],[2,6]),([7,5,8,0,1,2,3,4,5,6,7,8],[5,7])])
def numnahref07_Garment.B1:List Nat:=[0,0,3,0,0,31,0,0,255,511]
theorem numnahref07_Garment.tab1:rtab .any (opsOf Try.f24 1) = numnahref07_Garment.T1:=by kernel_rfl
theorem numnahref07_Garment.bits1:waitsOk numnahref07_Garment.T1.2 numnahref07_Garment.B1 = true:=by kernel_rfl
def numnahref07_Garment.T2:Bool × List (List Nat × List Nat):=(true,[([],[]),([],[]),([],[]),([1,2],[1,2]),([],[]),([3,4,3],[3,4]),([5,5],[5]),([0,6,6],[0,6]),([7,7,0,1,2,3,4,5,6,7],[7])])
def numnahref07_Garment.B2:List Nat:=[0,0,0,6,0,30,62,127,255]
theorem numnahref07_Garment.tab2:rtab .any (opsOf Try.f24 2) = numnahref07_Garment.T2:=by kernel_rfl
theorem numnahref07_Garment.bits2:waitsOk numnahref07_Garment.T2.2 numnahref07_Garment.B2 = true:=by kernel_rfl
theorem numnahref07_Garment.calls (k:Nat) (d6:Int) (d7:Int) (a1:Int) (a2:Int) (r1:Int) (r2:Int) (w:World) (h:numnahref07_Garment.f k d6 d7 a1 a2 = some (r1,r2)) :
  Calls Try.prog 24 #[.agg #[.int .i64 d6,.int .i64 d7],.int .i64 a1,.int .i64 a2] w fun e w'=>e = .returned (.agg #[.int .i64 r1,.int .i64 r2]) ∧ Below w.heap.size w w':=by
 have s9:=Try.underlying23
 have HB:=A_ (Below.refl w.heap.size w)
 have H:((numnahref07_rest.f k d6 d7 a2).bind fun h1=>((numnahref07_rest.f k d6 d7 a1).bind fun i5=>((numnahref07_Sub.f k d6 d7 h1.1 h1.2).bind fun i6=>((numnahref07_Sub.f k i6.1 i6.2 i5.1 i5.2).bind fun i7=>((numnahref07_Half.f k i7.1 i7.2).bind fun i8=>((numnahref07_Add.f k h1.1 h1.2 i8.1 i8.2).bind fun i9=>(some (i9.1,i9.2)))))))) = some (r1,r2):=h
 clear h
 replace H:=Option.bind_eq_some_iff.mp H
 obtain ⟨⟨e2,e3⟩,A40,H⟩:=H
 dsimp only at H
 have A4:=A_ A40
 clear A40
 replace H:=Option.bind_eq_some_iff.mp H
 obtain ⟨⟨e5,e6⟩,A50,H⟩:=H
 dsimp only at H
 have A5:=A_ A50
 clear A50
 replace H:=Option.bind_eq_some_iff.mp H
 obtain ⟨⟨m5,m6⟩,A60,H⟩:=H
 dsimp only at H
 have A6:=A_ A60
 clear A60
 replace H:=Option.bind_eq_some_iff.mp H
 obtain ⟨⟨m7,m8⟩,A70,H⟩:=H
 dsimp only at H
 have A7:=A_ A70
 clear A70
 replace H:=Option.bind_eq_some_iff.mp H
 obtain ⟨⟨m9,n0⟩,A80,H⟩:=H
 dsimp only at H
 have A8:=A_ A80
 clear A80
 replace H:=Option.bind_eq_some_iff.mp H
 obtain ⟨⟨n1,n2⟩,A90,H⟩:=H
 dsimp only at H
 have A9:=A_ A90
 clear A90
 simp only [Option.some.injEq,Prod.mk.injEq] at H
 obtain ⟨rfl,rfl⟩:=H
 go_enter Try.func24,Try.ntmps24
 try go_wp2_with (first | ((with_reducible refine gate_dst (N:=3) rfl ?_);refine bx 3 #[.int .i64 d6,.int .i64 d7] 23 ?_;intro b0 hg x1 hbox hb;have b2:=A_ hbox;have n3:=gw hg HB;have r9:=n3;replace HB:=bB HB hb;clear hb hbox hg) | ((with_reducible refine gate_dst (N:=6) rfl ?_);refine bx 6 #[.int .i64 0,.int .i64 0] 23 ?_;intro b5 hg t0 hbox hb;have b1:=A_ hbox;have n4:=gw hg HB;have s0:=n4;have e4:=nl hg b2;have i1:=ng hg b2;replace b2:=kB b2 hb;replace HB:=bB HB hb;clear hb hbox hg))
 replace b2:=kD b2
 replace b1:=kD b1
 replace HB:=bD HB
 refine st 10 (fun w'=>w'.cell? ⟨b0,0,none⟩ = some (.int .i64 d6) ∧ w'.cell? ⟨b0,1,none⟩ = some (.int .i64 d7)) [] numnahref07_Garment.tab1 numnahref07_Garment.bits1 (fun hHeld HT_ HW_=>?_)
 generalize t0.drew = x2 at b2 b1 HB hHeld ⊢
 refine pq 1 10 2 HT_ ?_
 refine pq 4 13 18 HT_ ?_
 refine tq 0 9 19 HT_ HW_ hHeld ?_
 refine tq 3 12 27 HT_ HW_ hHeld ?_
 refine join_ (σ:=Nat × Nat) 2 (ba 10 255) (fun s_=>[(11,.agg #[.int .i64 e2,.int .i64 e3]),(14,.agg #[.int .i64 e5,.int .i64 e6]),(7,.pointer (some ⟨s_.1,0,none⟩)),(8,.pointer (some ⟨s_.2,0,none⟩))]) (fun s_ w'=>(w'.cell? ⟨b0,0,none⟩ = some (.int .i64 d6) ∧ w'.cell? ⟨b0,1,none⟩ = some (.int .i64 d7)) ∧ (w'.heap[b0]? = some (.cells #[.int .i64 d6,.int .i64 d7] 23 (0,0))) ∧ (w'.heap[b5]? = some (.cells #[.int .i64 0,.int .i64 0] 23 (0,0))) ∧ (w'.heap[s_.1]? = some (.cells #[.int .i64 0,.int .i64 0] 23 (0,0))) ∧ (w'.heap[s_.2]? = some (.cells #[.int .i64 0,.int .i64 0] 23 (0,0))) ∧ (w.heap.size ≤ s_.1) ∧ (w.heap.size ≤ s_.1) ∧ (b0 ≠ s_.1) ∧ (s_.1 ≠ b0) ∧ (b5 ≠ s_.1) ∧ (s_.1 ≠ b5) ∧ (s_.2 ≠ s_.1) ∧ (s_.1 ≠ s_.2) ∧ (w.heap.size ≤ s_.2) ∧ (w.heap.size ≤ s_.2) ∧ (b0 ≠ s_.2) ∧ (s_.2 ≠ b0) ∧ (b5 ≠ s_.2) ∧ (s_.2 ≠ b5) ∧ (Below w.heap.size w w')) ?_ ?_
 rotate_left
 ·intro h3
  refine join_ (σ:=Nat) 3 (ba 10 127) (fun s_=>[(11,.agg #[.int .i64 e2,.int .i64 e3]),(14,.agg #[.int .i64 e5,.int .i64 e6]),(7,.pointer (some ⟨s_,0,none⟩))]) (fun s_ w'=>(w'.cell? ⟨b0,0,none⟩ = some (.int .i64 d6) ∧ w'.cell? ⟨b0,1,none⟩ = some (.int .i64 d7)) ∧ (w'.heap[b0]? = some (.cells #[.int .i64 d6,.int .i64 d7] 23 (0,0))) ∧ (w'.heap[b5]? = some (.cells #[.int .i64 0,.int .i64 0] 23 (0,0))) ∧ (w'.heap[s_]? = some (.cells #[.int .i64 0,.int .i64 0] 23 (0,0))) ∧ (w.heap.size ≤ s_) ∧ (w.heap.size ≤ s_) ∧ (b0 ≠ s_) ∧ (s_ ≠ b0) ∧ (b5 ≠ s_) ∧ (s_ ≠ b5) ∧ (Below w.heap.size w w')) ?_ ?_
  rotate_left
  ·intro m0
   refine join_ (σ:=Nat) 3 (ba 10 191) (fun s_=>[(11,.agg #[.int .i64 e2,.int .i64 e3]),(14,.agg #[.int .i64 e5,.int .i64 e6]),(8,.pointer (some ⟨s_,0,none⟩))]) (fun s_ w'=>(w'.cell? ⟨b0,0,none⟩ = some (.int .i64 d6) ∧ w'.cell? ⟨b0,1,none⟩ = some (.int .i64 d7)) ∧ (w'.heap[b0]? = some (.cells #[.int .i64 d6,.int .i64 d7] 23 (0,0))) ∧ (w'.heap[b5]? = some (.cells #[.int .i64 0,.int .i64 0] 23 (0,0))) ∧ (w'.heap[s_]? = some (.cells #[.int .i64 0,.int .i64 0] 23 (0,0))) ∧ (w.heap.size ≤ s_) ∧ (w.heap.size ≤ s_) ∧ (b0 ≠ s_) ∧ (s_ ≠ b0) ∧ (b5 ≠ s_) ∧ (s_ ≠ b5) ∧ (Below w.heap.size w w')) ?_ ?_
   rotate_left
   ·intro m1
    refine join_ (σ:=Nat × Nat) 3 (ba 10 223) (fun s_=>[(11,.agg #[.int .i64 e2,.int .i64 e3]),(7,.pointer (some ⟨s_.1,0,none⟩)),(8,.pointer (some ⟨s_.2,0,none⟩))]) (fun s_ w'=>(w'.cell? ⟨b0,0,none⟩ = some (.int .i64 d6) ∧ w'.cell? ⟨b0,1,none⟩ = some (.int .i64 d7)) ∧ (w'.heap[b0]? = some (.cells #[.int .i64 d6,.int .i64 d7] 23 (0,0))) ∧ (w'.heap[b5]? = some (.cells #[.int .i64 0,.int .i64 0] 23 (0,0))) ∧ (w'.heap[s_.1]? = some (.cells #[.int .i64 0,.int .i64 0] 23 (0,0))) ∧ (w'.heap[s_.2]? = some (.cells #[.int .i64 0,.int .i64 0] 23 (0,0))) ∧ (w.heap.size ≤ s_.1) ∧ (w.heap.size ≤ s_.1) ∧ (b0 ≠ s_.1) ∧ (s_.1 ≠ b0) ∧ (b5 ≠ s_.1) ∧ (s_.1 ≠ b5) ∧ (s_.2 ≠ s_.1) ∧ (s_.1 ≠ s_.2) ∧ (w.heap.size ≤ s_.2) ∧ (w.heap.size ≤ s_.2) ∧ (b0 ≠ s_.2) ∧ (s_.2 ≠ b0) ∧ (b5 ≠ s_.2) ∧ (s_.2 ≠ b5) ∧ (Below w.heap.size w w')) ?_ ?_
    rotate_left
    ·intro i3
     refine join_ (σ:=Unit) 4 (ba 10 63) (fun s_=>[(11,.agg #[.int .i64 e2,.int .i64 e3]),(14,.agg #[.int .i64 e5,.int .i64 e6])]) (fun s_ w'=>(w'.cell? ⟨b0,0,none⟩ = some (.int .i64 d6) ∧ w'.cell? ⟨b0,1,none⟩ = some (.int .i64 d7)) ∧ (w'.heap[b0]? = some (.cells #[.int .i64 d6,.int .i64 d7] 23 (0,0))) ∧ (w'.heap[b5]? = some (.cells #[.int .i64 0,.int .i64 0] 23 (0,0))) ∧ (Below w.heap.size w w')) ?_ ?_
     rotate_left
     ·intro n5
      refine join_ (σ:=Nat) 4 (ba 10 95) (fun s_=>[(11,.agg #[.int .i64 e2,.int .i64 e3]),(7,.pointer (some ⟨s_,0,none⟩))]) (fun s_ w'=>(w'.cell? ⟨b0,0,none⟩ = some (.int .i64 d6) ∧ w'.cell? ⟨b0,1,none⟩ = some (.int .i64 d7)) ∧ (w'.heap[b0]? = some (.cells #[.int .i64 d6,.int .i64 d7] 23 (0,0))) ∧ (w'.heap[b5]? = some (.cells #[.int .i64 0,.int .i64 0] 23 (0,0))) ∧ (w'.heap[s_]? = some (.cells #[.int .i64 0,.int .i64 0] 23 (0,0))) ∧ (w.heap.size ≤ s_) ∧ (w.heap.size ≤ s_) ∧ (b0 ≠ s_) ∧ (s_ ≠ b0) ∧ (b5 ≠ s_) ∧ (s_ ≠ b5) ∧ (Below w.heap.size w w')) ?_ ?_
      rotate_left
      ·intro m2
       refine join_ (σ:=Nat) 4 (ba 10 159) (fun s_=>[(11,.agg #[.int .i64 e2,.int .i64 e3]),(8,.pointer (some ⟨s_,0,none⟩))]) (fun s_ w'=>(w'.cell? ⟨b0,0,none⟩ = some (.int .i64 d6) ∧ w'.cell? ⟨b0,1,none⟩ = some (.int .i64 d7)) ∧ (w'.heap[b0]? = some (.cells #[.int .i64 d6,.int .i64 d7] 23 (0,0))) ∧ (w'.heap[b5]? = some (.cells #[.int .i64 0,.int .i64 0] 23 (0,0))) ∧ (w'.heap[s_]? = some (.cells #[.int .i64 0,.int .i64 0] 23 (0,0))) ∧ (w.heap.size ≤ s_) ∧ (w.heap.size ≤ s_) ∧ (b0 ≠ s_) ∧ (s_ ≠ b0) ∧ (b5 ≠ s_) ∧ (s_ ≠ b5) ∧ (Below w.heap.size w w')) ?_ ?_
       rotate_left
       ·intro m3
        refine join_ (σ:=Nat × Nat) 4 (ba 10 219) (fun s_=>[(7,.pointer (some ⟨s_.1,0,none⟩)),(8,.pointer (some ⟨s_.2,0,none⟩))]) (fun s_ w'=>(w'.cell? ⟨b0,0,none⟩ = some (.int .i64 d6) ∧ w'.cell? ⟨b0,1,none⟩ = some (.int .i64 d7)) ∧ (w'.heap[b0]? = some (.cells #[.int .i64 d6,.int .i64 d7] 23 (0,0))) ∧ (w'.heap[b5]? = some (.cells #[.int .i64 0,.int .i64 0] 23 (0,0))) ∧ (w'.heap[s_.1]? = some (.cells #[.int .i64 0,.int .i64 0] 23 (0,0))) ∧ (w'.heap[s_.2]? = some (.cells #[.int .i64 0,.int .i64 0] 23 (0,0))) ∧ (w.heap.size ≤ s_.1) ∧ (w.heap.size ≤ s_.1) ∧ (b0 ≠ s_.1) ∧ (s_.1 ≠ b0) ∧ (b5 ≠ s_.1) ∧ (s_.1 ≠ b5) ∧ (s_.2 ≠ s_.1) ∧ (s_.1 ≠ s_.2) ∧ (w.heap.size ≤ s_.2) ∧ (w.heap.size ≤ s_.2) ∧ (b0 ≠ s_.2) ∧ (s_.2 ≠ b0) ∧ (b5 ≠ s_.2) ∧ (s_.2 ≠ b5) ∧ (Below w.heap.size w w')) ?_ ?_
        rotate_left
        ·intro m4
         refine join_ (σ:=Unit) 5 (ba 10 31) (fun s_=>[(11,.agg #[.int .i64 e2,.int .i64 e3])]) (fun s_ w'=>(w'.cell? ⟨b0,0,none⟩ = some (.int .i64 d6) ∧ w'.cell? ⟨b0,1,none⟩ = some (.int .i64 d7)) ∧ (w'.heap[b0]? = some (.cells #[.int .i64 d6,.int .i64 d7] 23 (0,0))) ∧ (w'.heap[b5]? = some (.cells #[.int .i64 0,.int .i64 0] 23 (0,0))) ∧ (Below w.heap.size w w')) ?_ ?_
         rotate_left
         ·intro t1
          refine join_ (σ:=Nat) 5 (ba 10 91) (fun s_=>[(7,.pointer (some ⟨s_,0,none⟩))]) (fun s_ w'=>(w'.cell? ⟨b0,0,none⟩ = some (.int .i64 d6) ∧ w'.cell? ⟨b0,1,none⟩ = some (.int .i64 d7)) ∧ (w'.heap[b0]? = some (.cells #[.int .i64 d6,.int .i64 d7] 23 (0,0))) ∧ (w'.heap[b5]? = some (.cells #[.int .i64 0,.int .i64 0] 23 (0,0))) ∧ (w'.heap[s_]? = some (.cells #[.int .i64 0,.int .i64 0] 23 (0,0))) ∧ (w.heap.size ≤ s_) ∧ (w.heap.size ≤ s_) ∧ (b0 ≠ s_) ∧ (s_ ≠ b0) ∧ (b5 ≠ s_) ∧ (s_ ≠ b5) ∧ (Below w.heap.size w w')) ?_ ?_
          rotate_left
          ·intro t2
           refine join_ (σ:=Nat) 5 (ba 10 155) (fun s_=>[(8,.pointer (some ⟨s_,0,none⟩))]) (fun s_ w'=>(w'.cell? ⟨b0,0,none⟩ = some (.int .i64 d6) ∧ w'.cell? ⟨b0,1,none⟩ = some (.int .i64 d7)) ∧ (w'.heap[b0]? = some (.cells #[.int .i64 d6,.int .i64 d7] 23 (0,0))) ∧ (w'.heap[b5]? = some (.cells #[.int .i64 0,.int .i64 0] 23 (0,0))) ∧ (w'.heap[s_]? = some (.cells #[.int .i64 0,.int .i64 0] 23 (0,0))) ∧ (w.heap.size ≤ s_) ∧ (w.heap.size ≤ s_) ∧ (b0 ≠ s_) ∧ (s_ ≠ b0) ∧ (b5 ≠ s_) ∧ (s_ ≠ b5) ∧ (Below w.heap.size w w')) ?_ ?_
           rotate_left
           ·intro t3
            refine three_ (i:=2) (j:=6) (k:=7) (Ni:=some 11) (Nj:=some 7) (Nk:=some 8) (ba 10 31) (ba 10 91) (ba 10 155) rfl rfl rfl rfl rfl rfl (three_of HT_.out (by kernel_rfl)) (by decide) (by decide) (by decide) (fun K hK=>?_) (fun K hK=>?_) (fun K hK=>?_)
            ·skip
             refine gq Try.func66 #[.agg #[.int .i64 d6,.int .i64 d7],.int .i64 a2] ?_
             with_reducible refine (numnahref07_rest.calls k d6 d7 a2 e2 e3 _ A4.out).mono ?_
             rintro e s1 ⟨rfl,hb⟩
             refine ⟨_,rfl,?_⟩
             replace b2:=kB b2 hb
             replace b1:=kB b1 hb
             replace HB:=bB HB hb
             (try clear hb)
             refine hz hK (fun hHeld=>?_)
             clear hK K
             refine nq 11 ?_
             exact norm_ (by simp only [putAll,pu0,la,lb,lc]) (t1 () _ ⟨hHeld,b2.out,b1.out,HB.out⟩)
            ·skip
             refine box_step ?hg (N:=7) ?hd (cs:=#[.int .i64 0,.int .i64 0]) (t:=23) ?hr ?_;(case hd=>rfl);(case hg=>rfl);(case hr=>first | (go_simp;done) | (go_simp;rfl))
             intro b3 hg s1 hbox hb
             have d2:=A_ hbox
             have d8:=gw hg HB
             have e0:=d8
             have b6:=nl hg b2
             have d0:=ng hg b2
             have c0:=nl hg b1
             have b7:=ng hg b1
             replace b2:=kB b2 hb
             replace b1:=kB b1 hb
             replace HB:=bB HB hb
             clear hb hbox hg
             refine hz hK (fun hHeld=>?_)
             clear hK K
             refine nq 7 ?_
             exact norm_ (by simp only [putAll,pu0,la,lb,lc]) (t2 b3 _ ⟨hHeld,b2.out,b1.out,d2.out,d8.out,e0.out,b6.out,d0.out,c0.out,b7.out,HB.out⟩)
            skip
            refine box_step ?hg (N:=8) ?hd (cs:=#[.int .i64 0,.int .i64 0]) (t:=23) ?hr ?_;(case hd=>rfl);(case hg=>rfl);(case hr=>first | (go_simp;done) | (go_simp;rfl))
            intro b4 hg s1 hbox hb
            have d3:=A_ hbox
            have d9:=gw hg HB
            have e1:=d9
            have b8:=nl hg b2
            have d1:=ng hg b2
            have c1:=nl hg b1
            have b9:=ng hg b1
            replace b2:=kB b2 hb
            replace b1:=kB b1 hb
            replace HB:=bB HB hb
            clear hb hbox hg
            refine hz hK (fun hHeld=>?_)
            clear hK K
            refine nq 8 ?_
            exact norm_ (by simp only [putAll,pu0,la,lb,lc]) (t3 b4 _ ⟨hHeld,b2.out,b1.out,d3.out,d9.out,e1.out,b8.out,d1.out,c1.out,b9.out,HB.out⟩)
           skip
           rintro b4 i4 ⟨hS_,e8,e9,h0,h4,h5,h6,h7,h8,h9,i0⟩
           have d3:Aside0 (i4.heap[b4]? = some (.cells #[.int .i64 0,.int .i64 0] 23 (0,0))):=⟨h0⟩
           have d9:Aside0 (w.heap.size ≤ b4):=⟨h4⟩
           have e1:Aside0 (w.heap.size ≤ b4):=⟨h5⟩
           have b8:Aside0 (b0 ≠ b4):=⟨h6⟩
           have d1:Aside0 (b4 ≠ b0):=⟨h7⟩
           have c1:Aside0 (b5 ≠ b4):=⟨h8⟩
           have b9:Aside0 (b4 ≠ b5):=⟨h9⟩
           replace b2:Aside0 (i4.heap[b0]? = some (.cells #[.int .i64 d6,.int .i64 d7] 23 (0,0))):=⟨e8⟩
           replace b1:Aside0 (i4.heap[b5]? = some (.cells #[.int .i64 0,.int .i64 0] 23 (0,0))):=⟨e9⟩
           replace HB:Aside0 (Below w.heap.size w i4):=⟨i0⟩
           clear e8 e9 h0 h4 h5 h6 h7 h8 h9 i0
           have hHeld:i4.cell? ⟨b0,0,none⟩ = some (.int .i64 d6) ∧ i4.cell? ⟨b0,1,none⟩ = some (.int .i64 d7):=hS_
           refine norm_ (a':=?_) ?_ ?_
           rotate_left
           ·simp only [putAll,Act.put,List.setIfInBounds_toArray,List.set_cons_zero,List.set_cons_succ]
            rfl
           refine two_ (i:=2) (j:=6) (Ni:=some 11) (Nj:=some 7) (ba 10 159) (ba 10 219) rfl rfl rfl rfl (two_of HT_.out (by kernel_rfl)) (by decide) (by decide) (fun K hK=>?_) (fun K hK=>?_)
           ·skip
            refine gq Try.func66 #[.agg #[.int .i64 d6,.int .i64 d7],.int .i64 a2] ?_
            with_reducible refine (numnahref07_rest.calls k d6 d7 a2 e2 e3 _ A4.out).mono ?_
            rintro e e7 ⟨rfl,hb⟩
            refine ⟨_,rfl,?_⟩
            replace b2:=kB b2 hb
            replace b1:=kB b1 hb
            replace d3:=kB d3 hb
            replace HB:=bB HB hb
            (try clear hb)
            refine hz hK (fun hHeld=>?_)
            clear hK K
            refine nq 11 ?_
            exact norm_ (by simp only [putAll,pu0,la,lb,lc]) (m3 b4 _ ⟨hHeld,b2.out,b1.out,d3.out,d9.out,e1.out,b8.out,d1.out,c1.out,b9.out,HB.out⟩)
           skip
           refine box_step ?hg (N:=7) ?hd (cs:=#[.int .i64 0,.int .i64 0]) (t:=23) ?hr ?_;(case hd=>rfl);(case hg=>rfl);(case hr=>first | (go_simp;done) | (go_simp;rfl))
           intro b3 hg e7 hbox hb
           have d2:=A_ hbox
           have d8:=gw hg HB
           have e0:=d8
           have b6:=nl hg b2
           have d0:=ng hg b2
           have c0:=nl hg b1
           have b7:=ng hg b1
           have d4:=nl hg d3
           have d5:=ng hg d3
           replace b2:=kB b2 hb
           replace b1:=kB b1 hb
           replace d3:=kB d3 hb
           replace HB:=bB HB hb
           clear hb hbox hg
           refine hz hK (fun hHeld=>?_)
           clear hK K
           refine nq 7 ?_
           exact norm_ (by simp only [putAll,pu0,la,lb,lc]) (m4 (b3,b4) _ ⟨hHeld,b2.out,b1.out,d2.out,d3.out,d8.out,e0.out,b6.out,d0.out,c0.out,b7.out,d4.out,d5.out,d9.out,e1.out,b8.out,d1.out,c1.out,b9.out,HB.out⟩)
          skip
          rintro b3 i4 ⟨hS_,e8,e9,h0,h4,h5,h6,h7,h8,h9,i0⟩
          have d2:Aside0 (i4.heap[b3]? = some (.cells #[.int .i64 0,.int .i64 0] 23 (0,0))):=⟨h0⟩
          have d8:Aside0 (w.heap.size ≤ b3):=⟨h4⟩
          have e0:Aside0 (w.heap.size ≤ b3):=⟨h5⟩
          have b6:Aside0 (b0 ≠ b3):=⟨h6⟩
          have d0:Aside0 (b3 ≠ b0):=⟨h7⟩
          have c0:Aside0 (b5 ≠ b3):=⟨h8⟩
          have b7:Aside0 (b3 ≠ b5):=⟨h9⟩
          replace b2:Aside0 (i4.heap[b0]? = some (.cells #[.int .i64 d6,.int .i64 d7] 23 (0,0))):=⟨e8⟩
          replace b1:Aside0 (i4.heap[b5]? = some (.cells #[.int .i64 0,.int .i64 0] 23 (0,0))):=⟨e9⟩
          replace HB:Aside0 (Below w.heap.size w i4):=⟨i0⟩
          clear e8 e9 h0 h4 h5 h6 h7 h8 h9 i0
          have hHeld:i4.cell? ⟨b0,0,none⟩ = some (.int .i64 d6) ∧ i4.cell? ⟨b0,1,none⟩ = some (.int .i64 d7):=hS_
          refine norm_ (a':=?_) ?_ ?_
          rotate_left
          ·simp only [putAll,Act.put,List.setIfInBounds_toArray,List.set_cons_zero,List.set_cons_succ]
           rfl
          refine two_ (i:=2) (j:=7) (Ni:=some 11) (Nj:=some 8) (ba 10 95) (ba 10 219) rfl rfl rfl rfl (two_of HT_.out (by kernel_rfl)) (by decide) (by decide) (fun K hK=>?_) (fun K hK=>?_)
          ·skip
           refine gq Try.func66 #[.agg #[.int .i64 d6,.int .i64 d7],.int .i64 a2] ?_
           with_reducible refine (numnahref07_rest.calls k d6 d7 a2 e2 e3 _ A4.out).mono ?_
           rintro e e7 ⟨rfl,hb⟩
           refine ⟨_,rfl,?_⟩
           replace b2:=kB b2 hb
           replace b1:=kB b1 hb
           replace d2:=kB d2 hb
           replace HB:=bB HB hb
           (try clear hb)
           refine hz hK (fun hHeld=>?_)
           clear hK K
           refine nq 11 ?_
           exact norm_ (by simp only [putAll,pu0,la,lb,lc]) (m2 b3 _ ⟨hHeld,b2.out,b1.out,d2.out,d8.out,e0.out,b6.out,d0.out,c0.out,b7.out,HB.out⟩)
          skip
          refine box_step ?hg (N:=8) ?hd (cs:=#[.int .i64 0,.int .i64 0]) (t:=23) ?hr ?_;(case hd=>rfl);(case hg=>rfl);(case hr=>first | (go_simp;done) | (go_simp;rfl))
          intro b4 hg e7 hbox hb
          have d3:=A_ hbox
          have d9:=gw hg HB
          have e1:=d9
          have b8:=nl hg b2
          have d1:=ng hg b2
          have c1:=nl hg b1
          have b9:=ng hg b1
          have d5:=nl hg d2
          have d4:=ng hg d2
          replace b2:=kB b2 hb
          replace b1:=kB b1 hb
          replace d2:=kB d2 hb
          replace HB:=bB HB hb
          clear hb hbox hg
          refine hz hK (fun hHeld=>?_)
          clear hK K
          refine nq 8 ?_
          exact norm_ (by simp only [putAll,pu0,la,lb,lc]) (m4 (b3,b4) _ ⟨hHeld,b2.out,b1.out,d2.out,d3.out,d8.out,e0.out,b6.out,d0.out,c0.out,b7.out,d4.out,d5.out,d9.out,e1.out,b8.out,d1.out,c1.out,b9.out,HB.out⟩)
         skip
         rintro _ i4 ⟨hS_,e8,e9,h0⟩
         replace b2:Aside0 (i4.heap[b0]? = some (.cells #[.int .i64 d6,.int .i64 d7] 23 (0,0))):=⟨e8⟩
         replace b1:Aside0 (i4.heap[b5]? = some (.cells #[.int .i64 0,.int .i64 0] 23 (0,0))):=⟨e9⟩
         replace HB:Aside0 (Below w.heap.size w i4):=⟨h0⟩
         clear e8 e9 h0
         have hHeld:i4.cell? ⟨b0,0,none⟩ = some (.int .i64 d6) ∧ i4.cell? ⟨b0,1,none⟩ = some (.int .i64 d7):=hS_
         refine norm_ (a':=?_) ?_ ?_
         rotate_left
         ·simp only [putAll,Act.put,List.setIfInBounds_toArray,List.set_cons_zero,List.set_cons_succ]
          rfl
         refine three_ (i:=5) (j:=6) (k:=7) (Ni:=some 14) (Nj:=some 7) (Nk:=some 8) (ba 10 63) (ba 10 95) (ba 10 159) rfl rfl rfl rfl rfl rfl (three_of HT_.out (by kernel_rfl)) (by decide) (by decide) (by decide) (fun K hK=>?_) (fun K hK=>?_) (fun K hK=>?_)
         ·skip
          refine gq Try.func66 #[.agg #[.int .i64 d6,.int .i64 d7],.int .i64 a1] ?_
          with_reducible refine (numnahref07_rest.calls k d6 d7 a1 e5 e6 _ A5.out).mono ?_
          rintro e e7 ⟨rfl,hb⟩
          refine ⟨_,rfl,?_⟩
          replace b2:=kB b2 hb
          replace b1:=kB b1 hb
          replace HB:=bB HB hb
          (try clear hb)
          refine hz hK (fun hHeld=>?_)
          clear hK K
          refine nq 14 ?_
          exact norm_ (by simp only [putAll,pu0,la,lb,lc]) (n5 () _ ⟨hHeld,b2.out,b1.out,HB.out⟩)
         ·skip
          refine box_step ?hg (N:=7) ?hd (cs:=#[.int .i64 0,.int .i64 0]) (t:=23) ?hr ?_;(case hd=>rfl);(case hg=>rfl);(case hr=>first | (go_simp;done) | (go_simp;rfl))
          intro b3 hg e7 hbox hb
          have d2:=A_ hbox
          have d8:=gw hg HB
          have e0:=d8
          have b6:=nl hg b2
          have d0:=ng hg b2
          have c0:=nl hg b1
          have b7:=ng hg b1
          replace b2:=kB b2 hb
          replace b1:=kB b1 hb
          replace HB:=bB HB hb
          clear hb hbox hg
          refine hz hK (fun hHeld=>?_)
          clear hK K
          refine nq 7 ?_
          exact norm_ (by simp only [putAll,pu0,la,lb,lc]) (m2 b3 _ ⟨hHeld,b2.out,b1.out,d2.out,d8.out,e0.out,b6.out,d0.out,c0.out,b7.out,HB.out⟩)
         skip
         refine box_step ?hg (N:=8) ?hd (cs:=#[.int .i64 0,.int .i64 0]) (t:=23) ?hr ?_;(case hd=>rfl);(case hg=>rfl);(case hr=>first | (go_simp;done) | (go_simp;rfl))
         intro b4 hg e7 hbox hb
         have d3:=A_ hbox
         have d9:=gw hg HB
         have e1:=d9
         have b8:=nl hg b2
         have d1:=ng hg b2
         have c1:=nl hg b1
         have b9:=ng hg b1
         replace b2:=kB b2 hb
         replace b1:=kB b1 hb
         replace HB:=bB HB hb
         clear hb hbox hg
         refine hz hK (fun hHeld=>?_)
         clear hK K
         refine nq 8 ?_
         exact norm_ (by simp only [putAll,pu0,la,lb,lc]) (m3 b4 _ ⟨hHeld,b2.out,b1.out,d3.out,d9.out,e1.out,b8.out,d1.out,c1.out,b9.out,HB.out⟩)
        skip
        rintro ⟨b3,b4⟩ e7 ⟨hS_,e8,e9,h0,h4,h5,h6,h7,h8,h9,i0,j5,j7,j8,j9,l5,l6,l7,l8,l9⟩
        have d2:Aside0 (e7.heap[b3]? = some (.cells #[.int .i64 0,.int .i64 0] 23 (0,0))):=⟨h0⟩
        have d3:Aside0 (e7.heap[b4]? = some (.cells #[.int .i64 0,.int .i64 0] 23 (0,0))):=⟨h4⟩
        have d8:Aside0 (w.heap.size ≤ b3):=⟨h5⟩
        have e0:Aside0 (w.heap.size ≤ b3):=⟨h6⟩
        have b6:Aside0 (b0 ≠ b3):=⟨h7⟩
        have d0:Aside0 (b3 ≠ b0):=⟨h8⟩
        have c0:Aside0 (b5 ≠ b3):=⟨h9⟩
        have b7:Aside0 (b3 ≠ b5):=⟨i0⟩
        have d4:Aside0 (b4 ≠ b3):=⟨j5⟩
        have d5:Aside0 (b3 ≠ b4):=⟨j7⟩
        have d9:Aside0 (w.heap.size ≤ b4):=⟨j8⟩
        have e1:Aside0 (w.heap.size ≤ b4):=⟨j9⟩
        have b8:Aside0 (b0 ≠ b4):=⟨l5⟩
        have d1:Aside0 (b4 ≠ b0):=⟨l6⟩
        have c1:Aside0 (b5 ≠ b4):=⟨l7⟩
        have b9:Aside0 (b4 ≠ b5):=⟨l8⟩
        replace b2:Aside0 (e7.heap[b0]? = some (.cells #[.int .i64 d6,.int .i64 d7] 23 (0,0))):=⟨e8⟩
        replace b1:Aside0 (e7.heap[b5]? = some (.cells #[.int .i64 0,.int .i64 0] 23 (0,0))):=⟨e9⟩
        replace HB:Aside0 (Below w.heap.size w e7):=⟨l9⟩
        clear e8 e9 h0 h4 h5 h6 h7 h8 h9 i0 j5 j7 j8 j9 l5 l6 l7 l8 l9
        have hHeld:e7.cell? ⟨b0,0,none⟩ = some (.int .i64 d6) ∧ e7.cell? ⟨b0,1,none⟩ = some (.int .i64 d7):=hS_
        refine norm_ (a':=?_) ?_ ?_
        rotate_left
        ·simp only [putAll,Act.put,List.setIfInBounds_toArray,List.set_cons_zero,List.set_cons_succ]
         rfl
        refine oq 2 11 223 HT_ (fun K hK=>?_)
        refine gq Try.func66 #[.agg #[.int .i64 d6,.int .i64 d7],.int .i64 a2] ?_
        with_reducible refine (numnahref07_rest.calls k d6 d7 a2 e2 e3 _ A4.out).mono ?_
        rintro e h2 ⟨rfl,hb⟩
        refine ⟨_,rfl,?_⟩
        replace b2:=kB b2 hb
        replace b1:=kB b1 hb
        replace d2:=kB d2 hb
        replace d3:=kB d3 hb
        replace HB:=bB HB hb
        (try clear hb)
        refine hz hK (fun hHeld=>?_)
        clear hK K
        refine nq 11 ?_
        exact norm_ (by simp only [putAll,pu0,la,lb,lc]) (i3 (b3,b4) _ ⟨hHeld,b2.out,b1.out,d2.out,d3.out,d8.out,e0.out,b6.out,d0.out,c0.out,b7.out,d4.out,d5.out,d9.out,e1.out,b8.out,d1.out,c1.out,b9.out,HB.out⟩)
       skip
       rintro b4 e7 ⟨hS_,e8,e9,h0,h4,h5,h6,h7,h8,h9,i0⟩
       have d3:Aside0 (e7.heap[b4]? = some (.cells #[.int .i64 0,.int .i64 0] 23 (0,0))):=⟨h0⟩
       have d9:Aside0 (w.heap.size ≤ b4):=⟨h4⟩
       have e1:Aside0 (w.heap.size ≤ b4):=⟨h5⟩
       have b8:Aside0 (b0 ≠ b4):=⟨h6⟩
       have d1:Aside0 (b4 ≠ b0):=⟨h7⟩
       have c1:Aside0 (b5 ≠ b4):=⟨h8⟩
       have b9:Aside0 (b4 ≠ b5):=⟨h9⟩
       replace b2:Aside0 (e7.heap[b0]? = some (.cells #[.int .i64 d6,.int .i64 d7] 23 (0,0))):=⟨e8⟩
       replace b1:Aside0 (e7.heap[b5]? = some (.cells #[.int .i64 0,.int .i64 0] 23 (0,0))):=⟨e9⟩
       replace HB:Aside0 (Below w.heap.size w e7):=⟨i0⟩
       clear e8 e9 h0 h4 h5 h6 h7 h8 h9 i0
       have hHeld:e7.cell? ⟨b0,0,none⟩ = some (.int .i64 d6) ∧ e7.cell? ⟨b0,1,none⟩ = some (.int .i64 d7):=hS_
       refine norm_ (a':=?_) ?_ ?_
       rotate_left
       ·simp only [putAll,Act.put,List.setIfInBounds_toArray,List.set_cons_zero,List.set_cons_succ]
        rfl
       refine two_ (i:=5) (j:=6) (Ni:=some 14) (Nj:=some 7) (ba 10 191) (ba 10 223) rfl rfl rfl rfl (two_of HT_.out (by kernel_rfl)) (by decide) (by decide) (fun K hK=>?_) (fun K hK=>?_)
       ·skip
        refine gq Try.func66 #[.agg #[.int .i64 d6,.int .i64 d7],.int .i64 a1] ?_
        with_reducible refine (numnahref07_rest.calls k d6 d7 a1 e5 e6 _ A5.out).mono ?_
        rintro e h2 ⟨rfl,hb⟩
        refine ⟨_,rfl,?_⟩
        replace b2:=kB b2 hb
        replace b1:=kB b1 hb
        replace d3:=kB d3 hb
        replace HB:=bB HB hb
        (try clear hb)
        refine hz hK (fun hHeld=>?_)
        clear hK K
        refine nq 14 ?_
        exact norm_ (by simp only [putAll,pu0,la,lb,lc]) (m1 b4 _ ⟨hHeld,b2.out,b1.out,d3.out,d9.out,e1.out,b8.out,d1.out,c1.out,b9.out,HB.out⟩)
       skip
       refine box_step ?hg (N:=7) ?hd (cs:=#[.int .i64 0,.int .i64 0]) (t:=23) ?hr ?_;(case hd=>rfl);(case hg=>rfl);(case hr=>first | (go_simp;done) | (go_simp;rfl))
       intro b3 hg h2 hbox hb
       have d2:=A_ hbox
       have d8:=gw hg HB
       have e0:=d8
       have b6:=nl hg b2
       have d0:=ng hg b2
       have c0:=nl hg b1
       have b7:=ng hg b1
       have d4:=nl hg d3
       have d5:=ng hg d3
       replace b2:=kB b2 hb
       replace b1:=kB b1 hb
       replace d3:=kB d3 hb
       replace HB:=bB HB hb
       clear hb hbox hg
       refine hz hK (fun hHeld=>?_)
       clear hK K
       refine nq 7 ?_
       exact norm_ (by simp only [putAll,pu0,la,lb,lc]) (i3 (b3,b4) _ ⟨hHeld,b2.out,b1.out,d2.out,d3.out,d8.out,e0.out,b6.out,d0.out,c0.out,b7.out,d4.out,d5.out,d9.out,e1.out,b8.out,d1.out,c1.out,b9.out,HB.out⟩)
      skip
      rintro b3 e7 ⟨hS_,e8,e9,h0,h4,h5,h6,h7,h8,h9,i0⟩
      have d2:Aside0 (e7.heap[b3]? = some (.cells #[.int .i64 0,.int .i64 0] 23 (0,0))):=⟨h0⟩
      have d8:Aside0 (w.heap.size ≤ b3):=⟨h4⟩
      have e0:Aside0 (w.heap.size ≤ b3):=⟨h5⟩
      have b6:Aside0 (b0 ≠ b3):=⟨h6⟩
      have d0:Aside0 (b3 ≠ b0):=⟨h7⟩
      have c0:Aside0 (b5 ≠ b3):=⟨h8⟩
      have b7:Aside0 (b3 ≠ b5):=⟨h9⟩
      replace b2:Aside0 (e7.heap[b0]? = some (.cells #[.int .i64 d6,.int .i64 d7] 23 (0,0))):=⟨e8⟩
      replace b1:Aside0 (e7.heap[b5]? = some (.cells #[.int .i64 0,.int .i64 0] 23 (0,0))):=⟨e9⟩
      replace HB:Aside0 (Below w.heap.size w e7):=⟨i0⟩
      clear e8 e9 h0 h4 h5 h6 h7 h8 h9 i0
      have hHeld:e7.cell? ⟨b0,0,none⟩ = some (.int .i64 d6) ∧ e7.cell? ⟨b0,1,none⟩ = some (.int .i64 d7):=hS_
      refine norm_ (a':=?_) ?_ ?_
      rotate_left
      ·simp only [putAll,Act.put,List.setIfInBounds_toArray,List.set_cons_zero,List.set_cons_succ]
       rfl
      refine two_ (i:=5) (j:=7) (Ni:=some 14) (Nj:=some 8) (ba 10 127) (ba 10 223) rfl rfl rfl rfl (two_of HT_.out (by kernel_rfl)) (by decide) (by decide) (fun K hK=>?_) (fun K hK=>?_)
      ·skip
       refine gq Try.func66 #[.agg #[.int .i64 d6,.int .i64 d7],.int .i64 a1] ?_
       with_reducible refine (numnahref07_rest.calls k d6 d7 a1 e5 e6 _ A5.out).mono ?_
       rintro e h2 ⟨rfl,hb⟩
       refine ⟨_,rfl,?_⟩
       replace b2:=kB b2 hb
       replace b1:=kB b1 hb
       replace d2:=kB d2 hb
       replace HB:=bB HB hb
       (try clear hb)
       refine hz hK (fun hHeld=>?_)
       clear hK K
       refine nq 14 ?_
       exact norm_ (by simp only [putAll,pu0,la,lb,lc]) (m0 b3 _ ⟨hHeld,b2.out,b1.out,d2.out,d8.out,e0.out,b6.out,d0.out,c0.out,b7.out,HB.out⟩)
      skip
      refine box_step ?hg (N:=8) ?hd (cs:=#[.int .i64 0,.int .i64 0]) (t:=23) ?hr ?_;(case hd=>rfl);(case hg=>rfl);(case hr=>first | (go_simp;done) | (go_simp;rfl))
      intro b4 hg h2 hbox hb
      have d3:=A_ hbox
      have d9:=gw hg HB
      have e1:=d9
      have b8:=nl hg b2
      have d1:=ng hg b2
      have c1:=nl hg b1
      have b9:=ng hg b1
      have d5:=nl hg d2
      have d4:=ng hg d2
      replace b2:=kB b2 hb
      replace b1:=kB b1 hb
      replace d2:=kB d2 hb
      replace HB:=bB HB hb
      clear hb hbox hg
      refine hz hK (fun hHeld=>?_)
      clear hK K
      refine nq 8 ?_
      exact norm_ (by simp only [putAll,pu0,la,lb,lc]) (i3 (b3,b4) _ ⟨hHeld,b2.out,b1.out,d2.out,d3.out,d8.out,e0.out,b6.out,d0.out,c0.out,b7.out,d4.out,d5.out,d9.out,e1.out,b8.out,d1.out,c1.out,b9.out,HB.out⟩)
     skip
     rintro _ e7 ⟨hS_,e8,e9,h0⟩
     replace b2:Aside0 (e7.heap[b0]? = some (.cells #[.int .i64 d6,.int .i64 d7] 23 (0,0))):=⟨e8⟩
     replace b1:Aside0 (e7.heap[b5]? = some (.cells #[.int .i64 0,.int .i64 0] 23 (0,0))):=⟨e9⟩
     replace HB:Aside0 (Below w.heap.size w e7):=⟨h0⟩
     clear e8 e9 h0
     have hHeld:e7.cell? ⟨b0,0,none⟩ = some (.int .i64 d6) ∧ e7.cell? ⟨b0,1,none⟩ = some (.int .i64 d7):=hS_
     refine norm_ (a':=?_) ?_ ?_
     rotate_left
     ·simp only [putAll,Act.put,List.setIfInBounds_toArray,List.set_cons_zero,List.set_cons_succ]
      rfl
     refine two_ (i:=6) (j:=7) (Ni:=some 7) (Nj:=some 8) (ba 10 127) (ba 10 191) rfl rfl rfl rfl (two_of HT_.out (by kernel_rfl)) (by decide) (by decide) (fun K hK=>?_) (fun K hK=>?_)
     ·skip
      refine box_step ?hg (N:=7) ?hd (cs:=#[.int .i64 0,.int .i64 0]) (t:=23) ?hr ?_;(case hd=>rfl);(case hg=>rfl);(case hr=>first | (go_simp;done) | (go_simp;rfl))
      intro b3 hg h2 hbox hb
      have d2:=A_ hbox
      have d8:=gw hg HB
      have e0:=d8
      have b6:=nl hg b2
      have d0:=ng hg b2
      have c0:=nl hg b1
      have b7:=ng hg b1
      replace b2:=kB b2 hb
      replace b1:=kB b1 hb
      replace HB:=bB HB hb
      clear hb hbox hg
      refine hz hK (fun hHeld=>?_)
      clear hK K
      refine nq 7 ?_
      exact norm_ (by simp only [putAll,pu0,la,lb,lc]) (m0 b3 _ ⟨hHeld,b2.out,b1.out,d2.out,d8.out,e0.out,b6.out,d0.out,c0.out,b7.out,HB.out⟩)
     skip
     refine box_step ?hg (N:=8) ?hd (cs:=#[.int .i64 0,.int .i64 0]) (t:=23) ?hr ?_;(case hd=>rfl);(case hg=>rfl);(case hr=>first | (go_simp;done) | (go_simp;rfl))
     intro b4 hg h2 hbox hb
     have d3:=A_ hbox
     have d9:=gw hg HB
     have e1:=d9
     have b8:=nl hg b2
     have d1:=ng hg b2
     have c1:=nl hg b1
     have b9:=ng hg b1
     replace b2:=kB b2 hb
     replace b1:=kB b1 hb
     replace HB:=bB HB hb
     clear hb hbox hg
     refine hz hK (fun hHeld=>?_)
     clear hK K
     refine nq 8 ?_
     exact norm_ (by simp only [putAll,pu0,la,lb,lc]) (m1 b4 _ ⟨hHeld,b2.out,b1.out,d3.out,d9.out,e1.out,b8.out,d1.out,c1.out,b9.out,HB.out⟩)
    skip
    rintro ⟨b3,b4⟩ h2 ⟨hS_,e8,e9,h0,h4,h5,h6,h7,h8,h9,i0,j5,j7,j8,j9,l5,l6,l7,l8,l9⟩
    have d2:Aside0 (h2.heap[b3]? = some (.cells #[.int .i64 0,.int .i64 0] 23 (0,0))):=⟨h0⟩
    have d3:Aside0 (h2.heap[b4]? = some (.cells #[.int .i64 0,.int .i64 0] 23 (0,0))):=⟨h4⟩
    have d8:Aside0 (w.heap.size ≤ b3):=⟨h5⟩
    have e0:Aside0 (w.heap.size ≤ b3):=⟨h6⟩
    have b6:Aside0 (b0 ≠ b3):=⟨h7⟩
    have d0:Aside0 (b3 ≠ b0):=⟨h8⟩
    have c0:Aside0 (b5 ≠ b3):=⟨h9⟩
    have b7:Aside0 (b3 ≠ b5):=⟨i0⟩
    have d4:Aside0 (b4 ≠ b3):=⟨j5⟩
    have d5:Aside0 (b3 ≠ b4):=⟨j7⟩
    have d9:Aside0 (w.heap.size ≤ b4):=⟨j8⟩
    have e1:Aside0 (w.heap.size ≤ b4):=⟨j9⟩
    have b8:Aside0 (b0 ≠ b4):=⟨l5⟩
    have d1:Aside0 (b4 ≠ b0):=⟨l6⟩
    have c1:Aside0 (b5 ≠ b4):=⟨l7⟩
    have b9:Aside0 (b4 ≠ b5):=⟨l8⟩
    replace b2:Aside0 (h2.heap[b0]? = some (.cells #[.int .i64 d6,.int .i64 d7] 23 (0,0))):=⟨e8⟩
    replace b1:Aside0 (h2.heap[b5]? = some (.cells #[.int .i64 0,.int .i64 0] 23 (0,0))):=⟨e9⟩
    replace HB:Aside0 (Below w.heap.size w h2):=⟨l9⟩
    clear e8 e9 h0 h4 h5 h6 h7 h8 h9 i0 j5 j7 j8 j9 l5 l6 l7 l8 l9
    have hHeld:h2.cell? ⟨b0,0,none⟩ = some (.int .i64 d6) ∧ h2.cell? ⟨b0,1,none⟩ = some (.int .i64 d7):=hS_
    refine norm_ (a':=?_) ?_ ?_
    rotate_left
    ·simp only [putAll,Act.put,List.setIfInBounds_toArray,List.set_cons_zero,List.set_cons_succ]
     rfl
    refine oq 5 14 255 HT_ (fun K hK=>?_)
    refine gq Try.func66 #[.agg #[.int .i64 d6,.int .i64 d7],.int .i64 a1] ?_
    with_reducible refine (numnahref07_rest.calls k d6 d7 a1 e5 e6 _ A5.out).mono ?_
    rintro e i2 ⟨rfl,hb⟩
    refine ⟨_,rfl,?_⟩
    replace b2:=kB b2 hb
    replace b1:=kB b1 hb
    replace d2:=kB d2 hb
    replace d3:=kB d3 hb
    replace HB:=bB HB hb
    (try clear hb)
    refine hz hK (fun hHeld=>?_)
    clear hK K
    refine nq 14 ?_
    exact norm_ (by simp only [putAll,pu0,la,lb,lc]) (h3 (b3,b4) _ ⟨hHeld,b2.out,b1.out,d2.out,d3.out,d8.out,e0.out,b6.out,d0.out,c0.out,b7.out,d4.out,d5.out,d9.out,e1.out,b8.out,d1.out,c1.out,b9.out,HB.out⟩)
   skip
   rintro b4 h2 ⟨hS_,e8,e9,h0,h4,h5,h6,h7,h8,h9,i0⟩
   have d3:Aside0 (h2.heap[b4]? = some (.cells #[.int .i64 0,.int .i64 0] 23 (0,0))):=⟨h0⟩
   have d9:Aside0 (w.heap.size ≤ b4):=⟨h4⟩
   have e1:Aside0 (w.heap.size ≤ b4):=⟨h5⟩
   have b8:Aside0 (b0 ≠ b4):=⟨h6⟩
   have d1:Aside0 (b4 ≠ b0):=⟨h7⟩
   have c1:Aside0 (b5 ≠ b4):=⟨h8⟩
   have b9:Aside0 (b4 ≠ b5):=⟨h9⟩
   replace b2:Aside0 (h2.heap[b0]? = some (.cells #[.int .i64 d6,.int .i64 d7] 23 (0,0))):=⟨e8⟩
   replace b1:Aside0 (h2.heap[b5]? = some (.cells #[.int .i64 0,.int .i64 0] 23 (0,0))):=⟨e9⟩
   replace HB:Aside0 (Below w.heap.size w h2):=⟨i0⟩
   clear e8 e9 h0 h4 h5 h6 h7 h8 h9 i0
   have hHeld:h2.cell? ⟨b0,0,none⟩ = some (.int .i64 d6) ∧ h2.cell? ⟨b0,1,none⟩ = some (.int .i64 d7):=hS_
   refine norm_ (a':=?_) ?_ ?_
   rotate_left
   ·simp only [putAll,Act.put,List.setIfInBounds_toArray,List.set_cons_zero,List.set_cons_succ]
    rfl
   refine oq 6 7 255 HT_ (fun K hK=>?_)
   refine box_step ?hg (N:=7) ?hd (cs:=#[.int .i64 0,.int .i64 0]) (t:=23) ?hr ?_;(case hd=>rfl);(case hg=>rfl);(case hr=>first | (go_simp;done) | (go_simp;rfl))
   intro b3 hg i2 hbox hb
   have d2:=A_ hbox
   have d8:=gw hg HB
   have e0:=d8
   have b6:=nl hg b2
   have d0:=ng hg b2
   have c0:=nl hg b1
   have b7:=ng hg b1
   have d4:=nl hg d3
   have d5:=ng hg d3
   replace b2:=kB b2 hb
   replace b1:=kB b1 hb
   replace d3:=kB d3 hb
   replace HB:=bB HB hb
   clear hb hbox hg
   refine hz hK (fun hHeld=>?_)
   clear hK K
   refine nq 7 ?_
   exact norm_ (by simp only [putAll,pu0,la,lb,lc]) (h3 (b3,b4) _ ⟨hHeld,b2.out,b1.out,d2.out,d3.out,d8.out,e0.out,b6.out,d0.out,c0.out,b7.out,d4.out,d5.out,d9.out,e1.out,b8.out,d1.out,c1.out,b9.out,HB.out⟩)
  skip
  rintro b3 h2 ⟨hS_,e8,e9,h0,h4,h5,h6,h7,h8,h9,i0⟩
  have d2:Aside0 (h2.heap[b3]? = some (.cells #[.int .i64 0,.int .i64 0] 23 (0,0))):=⟨h0⟩
  have d8:Aside0 (w.heap.size ≤ b3):=⟨h4⟩
  have e0:Aside0 (w.heap.size ≤ b3):=⟨h5⟩
  have b6:Aside0 (b0 ≠ b3):=⟨h6⟩
  have d0:Aside0 (b3 ≠ b0):=⟨h7⟩
  have c0:Aside0 (b5 ≠ b3):=⟨h8⟩
  have b7:Aside0 (b3 ≠ b5):=⟨h9⟩
  replace b2:Aside0 (h2.heap[b0]? = some (.cells #[.int .i64 d6,.int .i64 d7] 23 (0,0))):=⟨e8⟩
  replace b1:Aside0 (h2.heap[b5]? = some (.cells #[.int .i64 0,.int .i64 0] 23 (0,0))):=⟨e9⟩
  replace HB:Aside0 (Below w.heap.size w h2):=⟨i0⟩
  clear e8 e9 h0 h4 h5 h6 h7 h8 h9 i0
  have hHeld:h2.cell? ⟨b0,0,none⟩ = some (.int .i64 d6) ∧ h2.cell? ⟨b0,1,none⟩ = some (.int .i64 d7):=hS_
  refine norm_ (a':=?_) ?_ ?_
  rotate_left
  ·simp only [putAll,Act.put,List.setIfInBounds_toArray,List.set_cons_zero,List.set_cons_succ]
   rfl
  refine oq 7 8 255 HT_ (fun K hK=>?_)
  refine box_step ?hg (N:=8) ?hd (cs:=#[.int .i64 0,.int .i64 0]) (t:=23) ?hr ?_;(case hd=>rfl);(case hg=>rfl);(case hr=>first | (go_simp;done) | (go_simp;rfl))
  intro b4 hg i2 hbox hb
  have d3:=A_ hbox
  have d9:=gw hg HB
  have e1:=d9
  have b8:=nl hg b2
  have d1:=ng hg b2
  have c1:=nl hg b1
  have b9:=ng hg b1
  have d5:=nl hg d2
  have d4:=ng hg d2
  replace b2:=kB b2 hb
  replace b1:=kB b1 hb
  replace d2:=kB d2 hb
  replace HB:=bB HB hb
  clear hb hbox hg
  refine hz hK (fun hHeld=>?_)
  clear hK K
  refine nq 8 ?_
  exact norm_ (by simp only [putAll,pu0,la,lb,lc]) (h3 (b3,b4) _ ⟨hHeld,b2.out,b1.out,d2.out,d3.out,d8.out,e0.out,b6.out,d0.out,c0.out,b7.out,d4.out,d5.out,d9.out,e1.out,b8.out,d1.out,c1.out,b9.out,HB.out⟩)
 rintro ⟨b3,b4⟩ i2 ⟨hS_,e8,e9,h0,h4,h5,h6,h7,h8,h9,i0,j5,j7,j8,j9,l5,l6,l7,l8,l9⟩
 have d2:Aside0 (i2.heap[b3]? = some (.cells #[.int .i64 0,.int .i64 0] 23 (0,0))):=⟨h0⟩
 have d3:Aside0 (i2.heap[b4]? = some (.cells #[.int .i64 0,.int .i64 0] 23 (0,0))):=⟨h4⟩
 have d8:Aside0 (w.heap.size ≤ b3):=⟨h5⟩
 have e0:Aside0 (w.heap.size ≤ b3):=⟨h6⟩
 have b6:Aside0 (b0 ≠ b3):=⟨h7⟩
 have d0:Aside0 (b3 ≠ b0):=⟨h8⟩
 have c0:Aside0 (b5 ≠ b3):=⟨h9⟩
 have b7:Aside0 (b3 ≠ b5):=⟨i0⟩
 have d4:Aside0 (b4 ≠ b3):=⟨j5⟩
 have d5:Aside0 (b3 ≠ b4):=⟨j7⟩
 have d9:Aside0 (w.heap.size ≤ b4):=⟨j8⟩
 have e1:Aside0 (w.heap.size ≤ b4):=⟨j9⟩
 have b8:Aside0 (b0 ≠ b4):=⟨l5⟩
 have d1:Aside0 (b4 ≠ b0):=⟨l6⟩
 have c1:Aside0 (b5 ≠ b4):=⟨l7⟩
 have b9:Aside0 (b4 ≠ b5):=⟨l8⟩
 replace b2:Aside0 (i2.heap[b0]? = some (.cells #[.int .i64 d6,.int .i64 d7] 23 (0,0))):=⟨e8⟩
 replace b1:Aside0 (i2.heap[b5]? = some (.cells #[.int .i64 0,.int .i64 0] 23 (0,0))):=⟨e9⟩
 replace HB:Aside0 (Below w.heap.size w i2):=⟨l9⟩
 clear e8 e9 h0 h4 h5 h6 h7 h8 h9 i0 j5 j7 j8 j9 l5 l6 l7 l8 l9
 have hHeld:i2.cell? ⟨b0,0,none⟩ = some (.int .i64 d6) ∧ i2.cell? ⟨b0,1,none⟩ = some (.int .i64 d7):=hS_
 refine norm_ (a':=?_) ?_ ?_
 rotate_left
 ·simp only [putAll,Act.put,List.setIfInBounds_toArray,List.set_cons_zero,List.set_cons_succ]
  rfl
 refine one_ (i:=8) (N:=none) (ba 10 511) rfl rfl (one_of HT_.out (by kernel_rfl)) (by decide) (fun K hK=>?_)
 have t4:i2.cell? ⟨b3,0,none⟩ = some (.int .i64 0):=cz d2 0
 have s2:=blk_frozen d2.out 0
 have n6:=b6.out
 have n7:=c0.out
 have n8:=d4.out
 have n9:=d0.out
 have o0:=b7.out
 have o1:=d5.out
 have t5:i2.cell? ⟨b3,1,none⟩ = some (.int .i64 0):=cz d2 1
 have s3:=blk_frozen d2.out 1
 have o2:=b6.out
 have o3:=c0.out
 have o4:=d4.out
 have o5:=d0.out
 have o6:=b7.out
 have o7:=d5.out
 refine skip_ (w1:=?_) (by rfl) rfl ?_ ?_
 rotate_left
 ·go_simp
  rfl
 refine hK.out _ _ ⟨((cell_far (p:=⟨b3,_,none⟩) b6.out _).trans (((cell_far (p:=⟨b3,_,none⟩) b6.out _).trans (hHeld.1)))),((cell_far (p:=⟨b3,_,none⟩) b6.out _).trans (((cell_far (p:=⟨b3,_,none⟩) b6.out _).trans (hHeld.2))))⟩ (fun hHeld=>?_)
 clear hK K
 refine one_ (i:=9) (N:=none) (ba 10 1023) rfl rfl (one_of HT_.out (by kernel_rfl)) (by decide) (fun K hK=>?_)
 have t6:i2.cell? ⟨b4,0,none⟩ = some (.int .i64 0):=cz d3 0
 have s4:=blk_frozen d3.out 0
 have o8:=b8.out
 have o9:=c1.out
 have p0:=d5.out
 have p1:=d1.out
 have p2:=b9.out
 have p3:=d4.out
 have t7:i2.cell? ⟨b4,1,none⟩ = some (.int .i64 0):=cz d3 1
 have s5:=blk_frozen d3.out 1
 have p4:=b8.out
 have p5:=c1.out
 have p6:=d5.out
 have p7:=d1.out
 have p8:=b9.out
 have p9:=d4.out
 refine skip_ (w1:=?_) (by rfl) rfl ?_ ?_
 rotate_left
 ·go_simp
  rfl
 refine hK.out _ _ ⟨((cell_far (p:=⟨b4,_,none⟩) b8.out _).trans (((cell_far (p:=⟨b4,_,none⟩) b8.out _).trans (hHeld.1)))),((cell_far (p:=⟨b4,_,none⟩) b8.out _).trans (((cell_far (p:=⟨b4,_,none⟩) b8.out _).trans (hHeld.2))))⟩ (fun hHeld=>?_)
 clear hK K
 refine done_ (done_of HT_.out (by kernel_rfl)) ?_
 try go_wp2
 have r4:Aside0 (((((i2.setCell ⟨b3,0,none⟩ (.int .i64 e2)).setCell ⟨b3,1,none⟩ (.int .i64 e3)).setCell ⟨b4,0,none⟩ (.int .i64 e5)).setCell ⟨b4,1,none⟩ (.int .i64 e6)).heap[b0]? = some (.cells #[.int .i64 d6,.int .i64 d7] 23 (0,0))):=⟨by refine blk_far ?_ b8.out _;refine blk_far ?_ b8.out _;refine blk_far ?_ b6.out _;refine blk_far ?_ b6.out _;exact b2.out⟩
 have r5:Aside0 (((((i2.setCell ⟨b3,0,none⟩ (.int .i64 e2)).setCell ⟨b3,1,none⟩ (.int .i64 e3)).setCell ⟨b4,0,none⟩ (.int .i64 e5)).setCell ⟨b4,1,none⟩ (.int .i64 e6)).heap[b5]? = some (.cells #[.int .i64 0,.int .i64 0] 23 (0,0))):=⟨by refine blk_far ?_ c1.out _;refine blk_far ?_ c1.out _;refine blk_far ?_ c0.out _;refine blk_far ?_ c0.out _;exact b1.out⟩
 have r6:Aside0 (((((i2.setCell ⟨b3,0,none⟩ (.int .i64 e2)).setCell ⟨b3,1,none⟩ (.int .i64 e3)).setCell ⟨b4,0,none⟩ (.int .i64 e5)).setCell ⟨b4,1,none⟩ (.int .i64 e6)).heap[b3]? = some (.cells #[.int .i64 e2,.int .i64 e3] 23 (0,0))):=⟨by refine blk_far ?_ d5.out _;refine blk_far ?_ d5.out _;refine blk_put (cs:=#[.int .i64 e2,.int .i64 0]) ?_ 1 _ rfl;refine blk_put (cs:=#[.int .i64 0,.int .i64 0]) ?_ 0 _ rfl;exact d2.out⟩
 have r7:Aside0 (((((i2.setCell ⟨b3,0,none⟩ (.int .i64 e2)).setCell ⟨b3,1,none⟩ (.int .i64 e3)).setCell ⟨b4,0,none⟩ (.int .i64 e5)).setCell ⟨b4,1,none⟩ (.int .i64 e6)).heap[b4]? = some (.cells #[.int .i64 e5,.int .i64 e6] 23 (0,0))):=⟨by refine blk_put (cs:=#[.int .i64 e5,.int .i64 0]) ?_ 1 _ rfl;refine blk_put (cs:=#[.int .i64 0,.int .i64 0]) ?_ 0 _ rfl;refine blk_far ?_ d4.out _;refine blk_far ?_ d4.out _;exact d3.out⟩
 have r8:Aside0 (Below w.heap.size w ((((i2.setCell ⟨b3,0,none⟩ (.int .i64 e2)).setCell ⟨b3,1,none⟩ (.int .i64 e3)).setCell ⟨b4,0,none⟩ (.int .i64 e5)).setCell ⟨b4,1,none⟩ (.int .i64 e6))):=⟨bl HB⟩
 generalize ((((i2.setCell ⟨b3,0,none⟩ (.int .i64 e2)).setCell ⟨b3,1,none⟩ (.int .i64 e3)).setCell ⟨b4,0,none⟩ (.int .i64 e5)).setCell ⟨b4,1,none⟩ (.int .i64 e6)) = t8 at r4 r5 r6 r7 r8 ⊢
 have b2:=r4
 have b1:=r5
 have d2:=r6
 have d3:=r7
 have HB:=r8
 clear r4 r5 r6 r7 r8
 replace b2:=kD b2
 replace b1:=kD b1
 replace d2:=kD d2
 replace d3:=kD d3
 replace HB:=bD HB
 refine st 9 (fun w'=>w'.cell? ⟨b3,0,none⟩ = some (.int .i64 e2) ∧ w'.cell? ⟨b3,1,none⟩ = some (.int .i64 e3) ∧ w'.cell? ⟨b0,0,none⟩ = some (.int .i64 d6) ∧ w'.cell? ⟨b0,1,none⟩ = some (.int .i64 d7) ∧ w'.cell? ⟨b4,0,none⟩ = some (.int .i64 e5) ∧ w'.cell? ⟨b4,1,none⟩ = some (.int .i64 e6)) [] numnahref07_Garment.tab2 numnahref07_Garment.bits2 (fun hHeld HT_ HW_=>?_)
 generalize t8.drew = x3 at b2 b1 d2 d3 HB hHeld ⊢
 refine tq 0 15 1 HT_ HW_ hHeld ?_
 refine tq 1 16 3 HT_ HW_ hHeld ?_
 refine tq 2 17 7 HT_ HW_ hHeld ?_
 refine tq 4 19 23 HT_ HW_ hHeld ?_
 refine oq 3 18 31 HT_ (fun K hK=>?_)
 refine gq Try.func31 #[.agg #[.int .i64 d6,.int .i64 d7],.agg #[.int .i64 e2,.int .i64 e3]] ?_
 with_reducible refine (numnahref07_Sub.calls k d6 d7 e2 e3 m5 m6 _ A6.out).mono ?_
 rintro e x4 ⟨rfl,hb⟩
 refine ⟨_,rfl,?_⟩
 replace b2:=kB b2 hb
 replace b1:=kB b1 hb
 replace d2:=kB d2 hb
 replace d3:=kB d3 hb
 replace HB:=bB HB hb
 (try clear hb)
 refine hz hK (fun hHeld=>?_)
 clear hK K
 refine nq 18 ?_
 refine oq 5 20 63 HT_ (fun K hK=>?_)
 refine gq Try.func31 #[.agg #[.int .i64 m5,.int .i64 m6],.agg #[.int .i64 e5,.int .i64 e6]] ?_
 with_reducible refine (numnahref07_Sub.calls k m5 m6 e5 e6 m7 m8 _ A7.out).mono ?_
 rintro e x5 ⟨rfl,hb⟩
 refine ⟨_,rfl,?_⟩
 replace b2:=kB b2 hb
 replace b1:=kB b1 hb
 replace d2:=kB d2 hb
 replace d3:=kB d3 hb
 replace HB:=bB HB hb
 (try clear hb)
 refine hz hK (fun hHeld=>?_)
 clear hK K
 refine nq 20 ?_
 refine oq 6 21 127 HT_ (fun K hK=>?_)
 refine gq Try.func67 #[.agg #[.int .i64 m7,.int .i64 m8]] ?_
 with_reducible refine (numnahref07_Half.calls k m7 m8 m9 n0 _ A8.out).mono ?_
 rintro e x6 ⟨rfl,hb⟩
 refine ⟨_,rfl,?_⟩
 replace b2:=kB b2 hb
 replace b1:=kB b1 hb
 replace d2:=kB d2 hb
 replace d3:=kB d3 hb
 replace HB:=bB HB hb
 (try clear hb)
 refine hz hK (fun hHeld=>?_)
 clear hK K
 refine nq 21 ?_
 refine oq 7 22 255 HT_ (fun K hK=>?_)
 refine gq Try.func28 #[.agg #[.int .i64 e2,.int .i64 e3],.agg #[.int .i64 m9,.int .i64 n0]] ?_
 with_reducible refine (numnahref07_Add.calls k e2 e3 m9 n0 n1 n2 _ A9.out).mono ?_
 rintro e s6 ⟨rfl,hb⟩
 refine ⟨_,rfl,?_⟩
 replace b2:=kB b2 hb
 replace b1:=kB b1 hb
 replace d2:=kB d2 hb
 replace d3:=kB d3 hb
 replace HB:=bB HB hb
 (try clear hb)
 refine hz hK (fun hHeld=>?_)
 clear hK K
 refine nq 22 ?_
 refine one_ (i:=8) (N:=none) (ba 9 511) rfl rfl (one_of HT_.out (by kernel_rfl)) (by decide) (fun K hK=>?_)
 have t9:s6.cell? ⟨b5,0,none⟩ = some (.int .i64 0):=cz b1 0
 have s7:=blk_frozen b1.out 0
 have q0:=e4.out
 have q1:=b7.out
 have q2:=b9.out
 have q3:=i1.out
 have q4:=c0.out
 have q5:=c1.out
 have x0:s6.cell? ⟨b5,1,none⟩ = some (.int .i64 0):=cz b1 1
 have s8:=blk_frozen b1.out 1
 have q6:=e4.out
 have q7:=b7.out
 have q8:=b9.out
 have q9:=i1.out
 have r0:=c0.out
 have r3:=c1.out
 refine skip_ (w1:=?_) (by rfl) rfl ?_ ?_
 rotate_left
 ·go_simp
  rfl
 refine hK.out _ _ ⟨((cell_far (p:=⟨b5,_,none⟩) b7.out _).trans (((cell_far (p:=⟨b5,_,none⟩) b7.out _).trans (hHeld.1)))),((cell_far (p:=⟨b5,_,none⟩) b7.out _).trans (((cell_far (p:=⟨b5,_,none⟩) b7.out _).trans (hHeld.2.1)))),((cell_far (p:=⟨b5,_,none⟩) e4.out _).trans (((cell_far (p:=⟨b5,_,none⟩) e4.out _).trans (hHeld.2.2.1)))),((cell_far (p:=⟨b5,_,none⟩) e4.out _).trans (((cell_far (p:=⟨b5,_,none⟩) e4.out _).trans (hHeld.2.2.2.1)))),((cell_far (p:=⟨b5,_,none⟩) b9.out _).trans (((cell_far (p:=⟨b5,_,none⟩) b9.out _).trans (hHeld.2.2.2.2.1)))),((cell_far (p:=⟨b5,_,none⟩) b9.out _).trans (((cell_far (p:=⟨b5,_,none⟩) b9.out _).trans (hHeld.2.2.2.2.2))))⟩ (fun hHeld=>?_)
 clear hK K
 refine done_ (done_of HT_.out (by kernel_rfl)) ?_
 try go_wp2
 refine bodyPost_ret (results_cell_row rfl _ _ b5 23 #[.int .i64 n1,.int .i64 n2] (0,0) _ rfl (by refine blk_put (cs:=#[.int .i64 n1,.int .i64 0]) ?_ 1 _ rfl;refine blk_put (cs:=#[.int .i64 0,.int .i64 0]) ?_ 0 _ rfl;exact b1.out) Try.underlying23 rfl (by kernel_rfl)) rfl ?_
 exact ⟨rfl,bl HB⟩
end Go.Proofs.Ytjohcjfmlhihbaa.G
namespace Go.Proofs.Ytjohcjfmlhihbaa.P
open Go Go.RowKit Go.Proofs.Ytjohcjfmlhihbaa.G
open Go.Proofs.YtjohcjfmlhihbaaW.PrintWords Go.Proofs.YtjohcjfmlhihbaaW.PrintMore
structure Sm (A D:Nat) (q:Rat):Prop where
 num:q.num.natAbs ≤ A
 den:q.den ≤ D
theorem Sm.mono {A D B E:Nat} {q:Rat} (h:Sm A D q) (h1:A ≤ B) (h2:D ≤ E):Sm B E q:=⟨Nat.le_trans h.num h1,Nat.le_trans h.den h2⟩
theorem Sm.int {A:Nat} {n:Int} (h:n.natAbs ≤ A):Sm A 1 (n:Rat):=⟨by rw [whole_num];exact h,by rw [whole_den];exact Nat.le_refl _⟩
theorem Sm.zero:Sm 0 1 (0:Rat):=⟨Nat.le_refl _,Nat.le_refl _⟩
theorem Sm.neg {A D:Nat} {q:Rat} (h:Sm A D q):Sm A D (-q):=⟨by rw [Rat.neg_num,Int.natAbs_neg];exact h.num,by rw [Rat.neg_den];exact h.den⟩
theorem Sm.add {A D B E:Nat} {p q:Rat} (h:Sm A D p) (k:Sm B E q):Sm (A * E + B * D) (D * E) (p + q) :=
 ⟨Nat.le_trans (add_num_le p q) (Nat.add_le_add (Nat.mul_le_mul h.num k.den) (Nat.mul_le_mul k.num h.den)),
  Nat.le_trans (Nat.le_of_dvd (Nat.mul_pos (den_pos p) (den_pos q)) (add_den_dvd p q)) (Nat.mul_le_mul h.den k.den)⟩
theorem Sm.sub {A D B E:Nat} {p q:Rat} (h:Sm A D p) (k:Sm B E q):Sm (A * E + B * D) (D * E) (p - q):=by rw [← sub_neg];exact h.add k.neg
theorem Sm.half {A D:Nat} {q:Rat} (h:Sm A D q):Sm A (D * 2) (q / 2):=by
 have e:q / 2 = mkRat q.num (q.den * 2):=(mk_over q (n:=2) (by omega)).symm
 rw [e]
 exact ⟨Nat.le_trans (num_le _ _) h.num,Nat.le_trans (den_le (by have:=den_pos q;omega)) (Nat.mul_le_mul_right _ h.den)⟩
theorem Sm.fits {A D B E:Nat} {p q:Rat} (h:Sm A D p) (k:Sm B E q) (h1:A * E + B * D < 9223372036854775808) (h2:D * E < 9223372036854775808):Fits p q :=
 ⟨Nat.lt_of_le_of_lt (Nat.add_le_add (Nat.mul_le_mul h.num k.den) (Nat.mul_le_mul k.num h.den)) h1,Nat.lt_of_le_of_lt (Nat.mul_le_mul h.den k.den) h2⟩
theorem restR_ge (e:Rat) (c:Rat):restR e c = if e < c then 0 else e - c:=by unfold restR;split <;> split <;> grind
section
variable {e:Rat} (he:Sm 2000000 400 e)
include he
theorem restS {c:Int} (h:0 ≤ c ∧ c ≤ 1000):Sm 2400000 400 (restR e (c:Rat)):=by
 unfold restR
 split
 ·exact (he.sub (Sm.int (A:=1000) (by omega))).mono (by decide) (by decide)
 ·exact Sm.zero.mono (by decide) (by decide)
theorem ev_rest {c:Int} (h:0 ≤ c ∧ c ≤ 1000):Ev (fun k=>shares_garment_1.f k c e.num (e.den:Int)) ((restR e (c:Rat)).num,((restR e (c:Rat)).den:Int)):=by
 unfold shares_garment_1.f shares_whole.f
 simp only [Option.bind_some]
 have hf:Fits e (c:Rat):=he.fits (Sm.int (A:=1000) (by omega)) (by decide) (by decide)
 have hm:=ev_minus hf
 rw [whole_num,whole_den] at hm
 refine Ev.bind hm ?_
 rw [restR_ge]
 by_cases hlt:e < (c:Rat)
 ·rw [if_pos hlt,if_pos ((sign_lt _ _).2 hlt)];exact Ev.now _
 ·rw [if_neg hlt,if_neg (fun h=>hlt ((sign_lt _ _).1 h))];exact Ev.now _
theorem ev_rrest {c:Int} (h:0 ≤ c ∧ c ≤ 1000):Ev (fun k=>numnahref07_rest.f k e.num (e.den:Int) c) ((restR e (c:Rat)).num,((restR e (c:Rat)).den:Int)):=by
 unfold numnahref07_rest.f numnahref07_Whole.f
 simp only [Option.bind_some]
 have hf:Fits e (c:Rat):=he.fits (Sm.int (A:=1000) (by omega)) (by decide) (by decide)
 have hf':Fits (c:Rat) e:=(Sm.int (A:=1000) (by omega)).fits he (by decide) (by decide)
 have hl:=rless hf'
 rw [whole_num,whole_den] at hl
 have hl':numnahref07_Less.f c 1 e.num (e.den:Int) = some (decide ((c:Rat) < e)):=hl
 simp only [hl',Option.bind_some]
 unfold restR
 by_cases hlt:(c:Rat) < e
 ·rw [if_pos hlt]
  refine Ev.congr (fun k=>if_pos (decide_eq_true hlt)) ?_
  have hm:=ev_rsub hf
  rw [whole_num,whole_den] at hm
  exact Ev.bind hm (Ev.now _)
 ·rw [if_neg hlt]
  exact Ev.congr (fun k=>if_neg (by simpa using hlt)) (Ev.now _)
theorem ev_garment {a b:Int} (ha:0 ≤ a ∧ a ≤ 1000) (hb:0 ≤ b ∧ b ≤ 1000) :
  Ev (fun k=>shares_garment.f k e.num (e.den:Int) a b) ((garR e (a:Rat) (b:Rat)).num,((garR e (a:Rat) (b:Rat)).den:Int),(garR e (b:Rat) (a:Rat)).num,((garR e (b:Rat) (a:Rat)).den:Int)):=by
 unfold shares_garment.f
 refine Ev.bind (ev_rest he hb) (Ev.bind (ev_rest he ha) ?_)
 have sx:=restS he hb
 have sy:=restS he ha
 refine Ev.bind (ev_add (sx.fits sy (by decide) (by decide))) ?_
 have sxy:=sx.add sy
 refine Ev.bind (ev_minus (he.fits sxy (by decide) (by decide))) ?_
 have sm:=he.sub sxy
 refine Ev.bind (ev_over _ (n:=2) (by omega) (Nat.lt_of_le_of_lt sm.num (by decide)) (Nat.lt_of_le_of_lt (Nat.mul_le_mul_right _ sm.den) (by decide))) ?_
 have sh:=sm.half
 refine Ev.bind (ev_add (sx.fits sh (by decide) (by decide))) (Ev.bind (ev_add (sy.fits sh (by decide) (by decide))) ?_)
 have e1:restR e (b:Rat) + (e - (restR e (b:Rat) + restR e (a:Rat))) / ((2:Nat):Rat) = garR e (a:Rat) (b:Rat):=by
  unfold garR;push_cast;grind
 have e2:restR e (a:Rat) + (e - (restR e (b:Rat) + restR e (a:Rat))) / ((2:Nat):Rat) = garR e (b:Rat) (a:Rat):=by
  unfold garR;push_cast;grind
 rw [← e1,← e2]
 exact Ev.now _
theorem ev_rgarment {a b:Int} (ha:0 ≤ a ∧ a ≤ 1000) (hb:0 ≤ b ∧ b ≤ 1000) :
  Ev (fun k=>numnahref07_Garment.f k e.num (e.den:Int) a b) ((garR e (a:Rat) (b:Rat)).num,((garR e (a:Rat) (b:Rat)).den:Int)):=by
 unfold numnahref07_Garment.f
 refine Ev.bind (ev_rrest he hb) (Ev.bind (ev_rrest he ha) ?_)
 have sx:=restS he hb
 have sy:=restS he ha
 refine Ev.bind (ev_rsub (he.fits sx (by decide) (by decide))) ?_
 have s1:=he.sub sx
 refine Ev.bind (ev_rsub (s1.fits sy (by decide) (by decide))) ?_
 have s2:=s1.sub sy
 refine Ev.bind (ev_rhalf (Nat.lt_of_le_of_lt s2.num (by decide)) (by have:=s2.den;omega)) ?_
 refine Ev.bind (ev_radd (sx.fits s2.half (by decide) (by decide))) ?_
 exact Ev.now _
end
end Go.Proofs.Ytjohcjfmlhihbaa.P
namespace Go.Proofs.Ytjohcjfmlhihbaa.P
open Go Go.RowKit Go.Proofs.Ytjohcjfmlhihbaa.G
open Go.Proofs.YtjohcjfmlhihbaaW.PrintWords Go.Proofs.YtjohcjfmlhihbaaW.PrintMore
def encQ (q:Rat):S23:=⟨q.num,(q.den:Int)⟩
def encL (l:List Rat):List S23:=l.map encQ
theorem encL_length (l:List Rat):(encL l).length = l.length:=List.length_map _
theorem encQ_inj {p q:Rat} (h:encQ p = encQ q):p = q:=by
 unfold encQ at h
 injection h with h1 h2
 exact Rat.ext h1 (by omega)
theorem encL_inj:∀ {l m:List Rat},encL l = encL m → l = m
 | [],[],_=>rfl
 | [],_ :: _,h=>by cases h
 | _ :: _,[],h=>by cases h
 | a :: l,b :: m,h=>by
  unfold encL at h
  rw [List.map_cons,List.map_cons] at h
  injection h with h1 h2
  rw [encQ_inj h1,encL_inj h2]
theorem rdE {l:List Rat} {i:Nat} (h:i < l.length):rd_T23 (encL l) (i:Int) = encQ l[i]:=by
 unfold rd_T23 encL
 simp [h]
section
variable {q:List Rat} (hf:∀ x ∈ q,∀ y ∈ q,Fits x y) (hn:q.length < 20)
structure On (q:List Rat) (σ:List Nat) (m j:Nat):Prop where
 perm:σ.Perm (List.range q.length)
 ord:∀ a b,a < b → b < m → b ≠ j → q.getD (σ.getD a 0) 0 ≤ q.getD (σ.getD b 0) 0
theorem On.len {q:List Rat} {σ:List Nat} {m j:Nat} (h:On q σ m j):σ.length = q.length:=by rw [h.perm.length_eq,List.length_range]
end
end Go.Proofs.Ytjohcjfmlhihbaa.P
namespace Go.Proofs.Ytjohcjfmlhihbaa.P
open Go Go.RowKit Go.Proofs.Ytjohcjfmlhihbaa.G
open Go.Proofs.YtjohcjfmlhihbaaW.PrintWords Go.Proofs.YtjohcjfmlhihbaaW.PrintMore
theorem encL_get {l:List Rat} {i:Nat} (h:i < l.length):(encL l)[i]'(by rw [encL_length];exact h) = encQ l[i]:=List.getElem_map _
def fac:Nat → Nat
 | 0=>1
 | n + 1=>(n + 1) * fac n
theorem fac_pos:∀ n,1 ≤ fac n
 | 0=>Nat.le_refl _
 | n + 1=>by rw [fac];exact Nat.mul_pos (by omega) (fac_pos n)
structure OkE (E:Rat) (D left:Nat):Prop where
 lo:0 ≤ E
 hi:E ≤ ((10000:Nat):Rat)
 den:E.den ∣ D
 two:2 ∣ D
 pos:0 < D
 small:D * fac left ≤ 7257600
structure OkC (c:Rat):Prop where
 lo:0 ≤ c
 hi:c ≤ ((1000:Nat):Rat)
 den:c.den ∣ 2
theorem num_abs {q:Rat} {B D:Nat} (h0:0 ≤ q) (h1:q ≤ (B:Rat)) (hd:q.den ≤ D):q.num.natAbs ≤ B * D:=by
 have:=num_of h0 h1 hd
 omega
theorem OkC.sm {c:Rat} (h:OkC c):Sm 2000 2 c:=⟨num_abs h.lo h.hi (den_le_of_dvd h.den (by omega)),den_le_of_dvd h.den (by omega)⟩
theorem OkE.le {E:Rat} {D left:Nat} (h:OkE E D left):D ≤ 7257600:=by
 have h1:=h.small
 have h2:D * 1 ≤ D * fac left:=Nat.mul_le_mul_left _ (fac_pos left)
 omega
theorem OkE.sm {E:Rat} {D left:Nat} (h:OkE E D left):Sm 72576000000 7257600 E:=by
 have hd:=Nat.le_trans (den_le_of_dvd h.den h.pos) h.le
 exact ⟨num_abs h.lo h.hi hd,hd⟩
theorem over_den (E:Rat) {n:Nat} (hn:0 < n):(E / (n:Rat)).den ∣ E.den * n:=by
 rw [← mk_over E hn]
 exact den_dvd _ (Nat.ne_of_gt (Nat.mul_pos (den_pos E) hn))
theorem nat_pos_rat {n:Nat} (h:0 < n):(0:Rat) < (n:Rat):=Rat.natCast_pos.2 h
theorem over_le {E:Rat} {n:Nat} (hn:0 < n) (h:0 ≤ E):0 ≤ E / (n:Rat) ∧ E / (n:Rat) ≤ E:=by
 have hp:=nat_pos_rat hn
 have h1:(1:Rat) ≤ (n:Rat):=by
  have:((1:Nat):Rat) ≤ (n:Rat):=Rat.natCast_le_natCast.2 hn
  simpa using this
 have hm:E / (n:Rat) * (n:Rat) = E:=Rat.div_mul_cancel (by grind)
 have h0:0 ≤ E / (n:Rat):=by
  refine Rat.le_of_mul_le_mul_right (c:=(n:Rat)) ?_ hp
  rw [hm];grind
 refine ⟨h0,?_⟩
 have:=Rat.mul_le_mul_of_nonneg_left h1 h0
 rw [hm] at this
 grind
section
variable {E c:Rat} {D n:Nat} (h:OkE E D (n + 1)) (hc:OkC c)
include h
theorem eqD:D * (n + 1) * fac n ≤ 7257600:=by
 have:=h.small
 rw [fac] at this
 rw [Nat.mul_assoc];exact this
theorem over_dvd:(E / ((n + 1:Nat):Rat)).den ∣ D * (n + 1):=Nat.dvd_trans (over_den E (by omega)) (Nat.mul_dvd_mul_right h.den _)
end
section
variable {E c:Rat} {D n:Nat} (h:OkE E D (n + 1)) (hc:OkC c)
include h hc
theorem min_dvd:(min c (E / ((n + 1:Nat):Rat))).den ∣ D * (n + 1):=by
 rw [Rat.min_def]
 split
 ·exact Nat.dvd_trans (Nat.dvd_trans hc.den h.two) (Nat.dvd_mul_right _ _)
 ·exact over_dvd h
theorem min_lohi:0 ≤ min c (E / ((n + 1:Nat):Rat)) ∧ min c (E / ((n + 1:Nat):Rat)) ≤ E:=by
 have hl:=over_le (n:=n + 1) (by omega) h.lo
 have:=hc.lo
 rw [Rat.min_def]
 split <;> grind
theorem OkE.next:OkE (E - min c (E / ((n + 1:Nat):Rat))) (D * (n + 1)) n:=by
 have hl:=min_lohi h hc
 exact ⟨by grind,by have:=h.hi;grind,sub_den_dvd' (Nat.dvd_trans h.den (Nat.dvd_mul_right _ _)) (min_dvd h hc) (Nat.mul_pos h.pos (by omega)),Nat.dvd_trans h.two (Nat.dvd_mul_right _ _),Nat.mul_pos h.pos (by omega),eqD h⟩
end
end Go.Proofs.Ytjohcjfmlhihbaa.P
namespace Go.Proofs.Ytjohcjfmlhihbaa.P
open Go Go.RowKit Go.Proofs.Ytjohcjfmlhihbaa.G
open Go.Proofs.YtjohcjfmlhihbaaW.PrintWords Go.Proofs.YtjohcjfmlhihbaaW.PrintMore
theorem tot_den {D:Nat} (h0:0 < D):∀ {l:List Rat},(∀ c ∈ l,c.den ∣ D) → (tot l).den ∣ D
 | [],_=>Nat.one_dvd _
 | a :: l,h=>add_den_dvd' (h a (by simp)) (tot_den h0 (fun c hc=>h c (List.mem_cons_of_mem _ hc))) h0
theorem tot_min (L:Rat):∀ l:List Rat,tot (l.map fun c=>min c L) = tot (l.map fun c=>if c ≤ L then c else 0) + ((l.countP fun c=>decide (L < c):Nat):Rat) * L
 | []=>by simp [tot_nil];grind
 | a :: l=>by
  rw [List.map_cons,List.map_cons,tot_cons,tot_cons,tot_min L l,List.countP_cons,Rat.min_def]
  by_cases h:a ≤ L
  ·have h':¬ L < a:=by grind
   rw [if_pos h,if_pos h,if_neg (by simpa using h')]
   push_cast;grind
  ·have h':L < a:=by grind
   rw [if_neg h,if_neg h,if_pos (by simpa using h')]
   push_cast;grind
theorem IsEq.den {l:List Rat} {E:Rat} {x:List Rat} (h:IsEq l E x) {D:Nat} (h0:0 < D) (hl:∀ c ∈ l,c.den ∣ D) (hE:E.den ∣ D):∀ y ∈ x,∃ m,1 ≤ m ∧ m ≤ l.length ∧ y.den ∣ D * m:=by
 obtain ⟨L,rfl,ht⟩:=h
 intro y hy
 obtain ⟨c,hc,rfl⟩:=List.mem_map.1 hy
 have hlen:1 ≤ l.length:=List.length_pos_iff.2 (List.ne_nil_of_mem hc)
 rw [Rat.min_def]
 by_cases h1:c ≤ L
 ·rw [if_pos h1]
  exact ⟨1,Nat.le_refl _,hlen,by rw [Nat.mul_one];exact hl c hc⟩
 ·rw [if_neg h1]
  obtain ⟨m,hm⟩:∃ m,l.countP (fun c=>decide (L < c)) = m:=⟨_,rfl⟩
  have hm1:1 ≤ m:=by
   rw [← hm]
   exact List.countP_pos_iff.2 ⟨c,hc,by simp;grind⟩
  have hm2:m ≤ l.length:=by rw [← hm];exact List.countP_le_length
  rw [tot_min,hm] at ht
  have hS:(tot (l.map fun c=>if c ≤ L then c else 0)).den ∣ D:=tot_den h0 (fun z hz=>by
   obtain ⟨d,hd,rfl⟩:=List.mem_map.1 hz
   split
   ·exact hl d hd
   ·exact Nat.one_dvd _)
  have hp:=nat_pos_rat (n:=m) (by omega)
  have hL:L = (E - tot (l.map fun c=>if c ≤ L then c else 0)) / (m:Rat):=by
   rw [← ht]
   have:(tot (l.map fun c=>if c ≤ L then c else 0) + (m:Rat) * L - tot (l.map fun c=>if c ≤ L then c else 0)) = L * (m:Rat):=by grind
   rw [this]
   exact (Rat.mul_div_cancel (by grind)).symm
  refine ⟨m,hm1,hm2,?_⟩
  rw [hL]
  exact Nat.dvd_trans (over_den _ (by omega)) (Nat.mul_dvd_mul_right (sub_den_dvd' hE hS h0) _)
theorem int_rat_le {a b:Int}:(a:Rat) ≤ (b:Rat) ↔ a ≤ b:=Rat.intCast_le_intCast
theorem okC_int {n:Int} (h:0 ≤ n ∧ n ≤ 1000):OkC (n:Rat) :=
 ⟨by have:=int_rat_le.2 h.1;simpa using this,by have:=int_rat_le.2 h.2;simpa using this,by rw [whole_den];exact Nat.one_dvd _⟩
end Go.Proofs.Ytjohcjfmlhihbaa.P
namespace Go.Proofs.Ytjohcjfmlhihbaa.P
open Go Go.RowKit Go.Proofs.Ytjohcjfmlhihbaa.G
open Go.Proofs.YtjohcjfmlhihbaaW.PrintWords Go.Proofs.YtjohcjfmlhihbaaW.PrintMore
theorem S_single {m j:Nat} (hj:j < m) (r:Rat):S m (fun u=>if u = j then r else 0) = r:=by
 induction m with
 | zero=>omega
 | succ m ih =>
  unfold S
  rw [List.range_succ,List.map_append,tot_append]
  by_cases h:j = m
  ·subst h
   have:tot ((List.range j).map fun u=>if u = j then r else 0) = 0:=S_zero (m:=j) (fun u hu=>by rw [if_neg (by omega)])
   rw [this]
   simp only [List.map_cons,List.map_nil,tot_cons,tot_nil,if_true]
   grind
  ·have:=ih (by omega)
   unfold S at this
   rw [this]
   simp only [List.map_cons,List.map_nil,tot_cons,tot_nil]
   rw [if_neg (fun e=>h e.symm)]
   grind
theorem S_update {m j:Nat} (hj:j < m) {f g:Nat → Rat} (h:∀ u,u < m → u ≠ j → g u = f u):S m g = S m f + (g j - f j):=by
 have e:S m (fun u=>g u - f u) = S m (fun u=>if u = j then g j - f j else 0):=S_congr fun u hu=>by
  by_cases hu2:u = j
  ·subst hu2;rw [if_pos rfl]
  ·rw [if_neg hu2,h u hu hu2];grind
 rw [S_sub,S_single hj] at e
 grind
structure Rq (l:List Int) (E e:Int) (done:List Bool) (left:Nat) (out:List S23):Prop where
 dl:done.length = l.length
 ol:out.length = l.length
 cnt:(left:Rat) = S l.length (fun i=>if done.getD i false then 0 else 1)
 est:(e:Rat) = (E:Rat) - S l.length (fun i=>if done.getD i false then ((l.getD i 0:Int):Rat) else 0)
 e0:0 ≤ e
 eb:e ≤ 20000
 lb:left ≤ 10
 ok:∀ i,i < l.length → done.getD i false = true → l.getD i 0 * (left:Int) ≤ e ∧ out.getD i z23 = encQ ((l.getD i 0:Int):Rat)
section
variable {l:List Int} (h:IsCl l) {E:Int}
include h
theorem Rq.next {e:Int} {done:List Bool} {left:Nat} {out:List S23} (s:Rq l E e done (left + 1) out) {j:Nat} (hj:j < l.length) (hd:done.getD j false = false) (hc:l.getD j 0 * ((left + 1:Nat):Int) ≤ e) :
  Rq l E (e - l.getD j 0) (done.set j true) left (out.set j (encQ ((l.getD j 0:Int):Rat))):=by
 have hg:l.getD j 0 = l[j]:=by simp [hj]
 have hm:=h.mem _ (List.getElem_mem hj)
 rw [← hg] at hm
 have gd:∀ u,(done.set j true).getD u false = if u = j then true else done.getD u false:=by
  intro u
  simp only [List.getD_eq_getElem?_getD,List.getElem?_set]
  by_cases e1:u = j
  ·subst e1;simp [s.dl,hj]
  ·rw [if_neg (fun e=>e1 e.symm),if_neg e1]
 have go:∀ u,(out.set j (encQ ((l.getD j 0:Int):Rat))).getD u z23 = if u = j then encQ ((l.getD j 0:Int):Rat) else out.getD u z23:=by
  intro u
  simp only [List.getD_eq_getElem?_getD,List.getElem?_set]
  by_cases e1:u = j
  ·subst e1;simp [s.ol,hj]
  ·rw [if_neg (fun e=>e1 e.symm),if_neg e1]
 have hc2:l.getD j 0 * (left:Int) + l.getD j 0 ≤ e:=by
  have:l.getD j 0 * ((left + 1:Nat):Int) = l.getD j 0 * (left:Int) + l.getD j 0:=by push_cast;rw [Int.mul_add,Int.mul_one]
  omega
 have hpos:0 ≤ l.getD j 0 * (left:Int):=Int.mul_nonneg hm.1 (by omega)
 refine ⟨by rw [List.length_set];exact s.dl,by rw [List.length_set];exact s.ol,?_,?_,by omega,by have:=s.eb;omega,by have:=s.lb;omega,fun i hi hid=>?_⟩
 ·have hu:=S_update hj (f:=fun i=>if done.getD i false then (0:Rat) else 1) (g:=fun i=>if (done.set j true).getD i false then 0 else 1) (fun u _ hu=>by simp only [gd,if_neg hu])
  rw [hu,← s.cnt]
  simp only [gd,if_true,hd,Bool.false_eq_true,if_false]
  push_cast;grind
 ·have hu:=S_update hj (f:=fun i=>if done.getD i false then ((l.getD i 0:Int):Rat) else 0) (g:=fun i=>if (done.set j true).getD i false then ((l.getD i 0:Int):Rat) else 0) (fun u _ hu=>by simp only [gd,if_neg hu])
  rw [hu]
  simp only [gd,if_true,hd,Bool.false_eq_true,if_false]
  have:=s.est
  push_cast
  grind
 ·rw [gd] at hid
  rw [go]
  by_cases e1:i = j
  ·subst e1
   rw [if_pos rfl]
   exact ⟨by omega,rfl⟩
  ·rw [if_neg e1] at hid ⊢
   obtain ⟨k1,k2⟩:=s.ok i hi hid
   refine ⟨?_,k2⟩
   have hi2:l.getD i 0 * ((left + 1:Nat):Int) = l.getD i 0 * (left:Int) + l.getD i 0:=by push_cast;rw [Int.mul_add,Int.mul_one]
   rw [hi2] at k1
   have a1:(l.getD i 0 * (left:Int) + l.getD i 0) * (left:Int) ≤ e * (left:Int):=Int.mul_le_mul_of_nonneg_right k1 (by omega)
   by_cases hl0:left = 0
   ·subst hl0
    have:l.getD i 0 * ((0:Nat):Int) = 0:=by simp
    omega
   ·-- (left + 1) * (c_i * left) ≤ e * left ≤ (left + 1) * (e - c_j)
    have a2:e * (left:Int) ≤ ((left:Int) + 1) * (e - l.getD j 0):=by
     have:((left:Int) + 1) * (e - l.getD j 0) = e * (left:Int) + e - (l.getD j 0 * (left:Int) + l.getD j 0):=by grind
     omega
    have a3:(l.getD i 0 * (left:Int) + l.getD i 0) * (left:Int) = ((left:Int) + 1) * (l.getD i 0 * (left:Int)):=by grind
    rw [a3] at a1
    exact Int.le_of_mul_le_mul_left (Int.le_trans a1 a2) (by omega)
end
end Go.Proofs.Ytjohcjfmlhihbaa.P
set_option linter.unusedSectionVars false
namespace Go.Proofs.Ytjohcjfmlhihbaa.P
open Go Go.RowKit Go.Proofs.Ytjohcjfmlhihbaa.G
open Go.Proofs.YtjohcjfmlhihbaaW.PrintWords Go.Proofs.YtjohcjfmlhihbaaW.PrintMore
theorem awake_now:numnahlaw07_awake.f 60 = some true:=by kernel_rfl
theorem ev_awake:Ev (fun k=>numnahlaw07_awake.f k) true:=Ev.of (fun k=>numnahlaw07_awake.mono k) awake_now
end Go.Proofs.Ytjohcjfmlhihbaa.P
namespace Go.Proofs.Ytjohcjfmlhihbaa.G
open Go.RowKit Go.Proofs.YtjohcjfmlhihbaaW.PrintWords Go.Proofs.YtjohcjfmlhihbaaW.PrintLast Go.Proofs.YtjohcjfmlhihbaaW.PrintMore
attribute [local go_sem] fld23_0 fld23_1 fld45_0 fld45_1 fld109_0 fld109_1 fld94_0 fld94_1 max2_int min2_int max_two min_two max_three min_three max_four min_four   -- for this text's walks alone
set_option linter.unusedVariables false
set_option linter.unusedSimpArgs false
theorem eqA23 (d:Nat) (w:World) (x0 y0:Int) (x1 y1:Int) :
  (Op.equalIn (d + 2) 23 (.agg #[.int .i64 x0,.int .i64 x1]) (.agg #[.int .i64 y0,.int .i64 y1])).run Try.prog w = .ok (x0 == y0 && (x1 == y1)) w:=by
 refine eqA_of Try.underlying23 (by kernel_rfl) ?_
 refine eqf_cons (by rfl) (by go_simp;rfl) (by go_simp;rfl) (by go_simp) ?_
 exact eqf_last (by rfl) (by go_simp;rfl) (by go_simp;rfl) (by go_simp)
end Go.Proofs.Ytjohcjfmlhihbaa.G
namespace Go.Proofs.Ytjohcjfmlhihbaa.G
open Go.RowKit Go.Proofs.YtjohcjfmlhihbaaW.PrintWords Go.Proofs.YtjohcjfmlhihbaaW.PrintLast Go.Proofs.YtjohcjfmlhihbaaW.PrintMore
set_option maxHeartbeats 8000000
set_option maxRecDepth 100000
attribute [local go_sem] cond_true cond_false fld23_0 fld23_1 fld45_0 fld45_1 fld109_0 fld109_1 fld94_0 fld94_1 max2_int min2_int max_two min_two max_three min_three max_four min_four   -- for this text's walks alone
attribute [local go_sem high] eqA23
def numnahlaw07_fracs.f (l0:List (S23)):Option ((List (S23))):=if 0 ≤ (mn (l0.length:Int) 11) then (if (mn (l0.length:Int) 11) ≤ (l0.length:Int) then ((some (l0.take ((mn (l0.length:Int) 11):Int).toNat:List (S23))).bind fun b0=>(if ([]:List (S23)).length + b0.length < 8796093022208 then (some (([]:List (S23)) ++ b0)) else (none))) else (none)) else (none)
theorem numnahlaw07_fracs.calls (A0:Option Addr) (c0:Nat) (l0:List (S23)) (r:List (S23)) (w:World) (d6:Kd.C k23 w A0 l0.length l0) (d7:l0.length ≤ c0) (h:numnahlaw07_fracs.f l0 = some r) :
  Calls Try.prog 36 #[.slice A0 l0.length c0] w fun e w'=>∃ d8:Value,e = .returned (d8) ∧ Kd.R k23 23 w' w.heap.size (fun _=>True) d8 r ∧ Below w.heap.size w w':=by
 have e4:=Aside0.mk d6
 have e5:=Aside0.mk d7
 clear d6 d7
 have HB:=Aside0.mk (Below.refl w.heap.size w)
 have H:(if 0 ≤ (mn (l0.length:Int) 11) then (if (mn (l0.length:Int) 11) ≤ (l0.length:Int) then ((some (l0.take ((mn (l0.length:Int) 11):Int).toNat:List (S23))).bind fun b0=>(if ([]:List (S23)).length + b0.length < 8796093022208 then (some (([]:List (S23)) ++ b0)) else (none))) else (none)) else (none)) = some r:=h
 clear h
 obtain ⟨b1,b4⟩:∃ j_:Int,(mn (l0.length:Int) 11) = j_:=⟨_,rfl⟩
 replace H:(if 0 ≤ (b1) then (if (b1) ≤ (l0.length:Int) then ((some (l0.take ((b1):Int).toNat:List (S23))).bind fun b0=>(if ([]:List (S23)).length + b0.length < 8796093022208 then (some (([]:List (S23)) ++ b0)) else (none))) else (none)) else (none)) = some r:=by first | (rw [b4] at H;exact H) | (simp only [b4] at H ⊢;exact H)
 (try (have hji2h:b1 ≤ 11:=by (rw [← b4];unfold mn;(repeat' split) <;> omega)))
 (try (have hji2g:b1 ≤ 64:=by omega))
 (try (have hji2l:0 ≤ b1:=by (rw [← b4];unfold mn;(repeat' split) <;> omega)))
 (try (have hji2m:0 ≤ b1:=by omega))
 have d9:(if 11 < (l0.length:Int) then 11 else (l0.length:Int)) = b1:=b4
 by_cases c3:0 ≤ (b1)
 case neg =>
  rw [if_neg c3] at H
  exact absurd H (by simp)
 rw [if_pos c3] at H
 have e6:=eq_true c3
 have e7:decide (0 ≤ (b1)) = true:=decide_eq_true c3
 clear c3
 by_cases c4:(b1) ≤ (l0.length:Int)
 case neg =>
  rw [if_neg c4] at H
  exact absurd H (by simp)
 rw [if_pos c4] at H
 have e8:=eq_true c4
 have e9:decide ((b1) ≤ (l0.length:Int)) = true:=decide_eq_true c4
 clear c4
 obtain ⟨b0,b2⟩:∃ y_:List (S23),y_ = (l0.take ((b1):Int).toNat):=⟨_,rfl⟩
 replace H:(if ([]:List (S23)).length + b0.length < 8796093022208 then (some (([]:List (S23)) ++ b0)) else (none)) = some r:=by first | (rw [b2];with_reducible exact H) | (have b6:=(Option.bind_some _ _).symm.trans H;rw [b2];with_reducible exact b6) | (have b6:=(Option.bind_some _ _).symm.trans H;with_reducible exact b6) | with_reducible exact H | (rw [b2];exact H) | exact H
 have b5:=Aside0.mk b2
 clear b2
 by_cases c5:([]:List (S23)).length + b0.length < 8796093022208
 case neg =>
  rw [if_neg c5] at H
  exact absurd H (by simp)
 rw [if_pos c5] at H
 have d1:=Aside0.mk c5
 clear c5
 obtain ⟨d2,b3⟩:∃ y_:List (S23),y_ = (([]:List (S23)) ++ b0):=⟨_,rfl⟩
 replace H:(some d2) = some r:=by first | (rw [b3];with_reducible exact H) | (have b6:=(Option.bind_some _ _).symm.trans H;rw [b3];with_reducible exact b6) | (have b6:=(Option.bind_some _ _).symm.trans H;with_reducible exact b6) | with_reducible exact H | (rw [b3];exact H) | exact H
 have b7:=Aside0.mk b3
 clear b3
 obtain rfl:=Option.some.inj H
 have q6:((b1):Int) ≤ ((l0.length:Int):Int):=of_decide_eq_true (by first | (with_reducible assumption) | assumption)
 obtain ⟨h1,b8,_,d3,_⟩:=info_parts info23
 have hroom6:l0.length ≤ c0:=e5.out
 have e0:Kd.C k23 _ A0 l0.length l0:=e4.out
 have b9:=cut_to (P:=Try.prog) 35 23 .i64 Try.underlying35 b8 A0 l0.length c0 (b1) (of_decide_eq_true (by first | (with_reducible assumption) | assumption)) q6 hroom6
 have d4:=Kd.C_take (m:=((b1):Int).toNat) e0 (by omega)
 have d5:b0.length = ((b1):Int).toNat:=(by rw [b5.out,List.length_take];omega)
 rw [← b5.out] at d4
 rw [← d5] at b9
 have c1:=Aside0.mk d4
 have e1:=Aside0.mk (show b0.length ≤ c0 from by omega)
 clear d4 e0 hroom6 b8 d3
 have h2:=Aside0.mk d5
 clear d5
 replace q6:=eq_true q6
 go_enter Try.func36,Try.ntmps36
 go_wp2_with (first | ((with_reducible refine gate_builtin (b:=.append) (xs:=#[.tmp 4,.tmp 9]) rfl ?_);at_builtin;refine Kd.R_append_rows k23 (w0:=w) w.heap.size rfl (.tmp 4) (.tmp 9) 35 23 (.agg #[(.int .i64 0),(.int .i64 0)]) 16 rfl Try.underlying35 info23 rfl (by decide) (by omega) (.slice none 0 0) ([]:List (S23)) b0 _ _ _ (fun _=>True) (fun _=>False) rfl rfl ?aO ?aR (fun _ _ h=>h) (fun _ h=>h.elim) ?aF ?aB ?aS ?aL ?_;(case aR=>repeat (first | exact c1.out | (with_reducible refine Kd.C_alloc ?_ _) | (with_reducible refine Kd.C_drewN ?_ _) | (with_reducible refine Kd.C_drew ?_)));(case aB=>exact (by repeat (first | (with_reducible first | exact HB.out | apply below_alloc | apply pw_below_drewN | apply below_drew1) | exact HB.out)));(case aF=>exact (fun _ _=>trivial));(case aO=>exact ((Kd.R_nil _ _ _ _ (fun _=>True))));(case aS=>exact (below_size (by repeat (first | (with_reducible first | exact HB.out | apply below_alloc | apply pw_below_drewN | apply below_drew1) | exact HB.out))));(case aL=>have:=d1.out;omega);intro h0 w7 ho hb hg hat;rw [← b7.out] at ho;have e2:=Aside0.mk (hb);have e3:=Aside0.mk (ho);clear HB;have HB:=e2;have d0:=e3;clear e2 e3;clear ho hb hg hat))
 go_ret
 exact ⟨_,by first | rfl | (simp [errW_none,errW_some] <;> rfl) | (simp only [← b4];first | rfl | (simp [errW_none,errW_some] <;> rfl)) | (simp [*,errW_none,errW_some] <;> rfl),by (with_reducible repeat (first | apply Kd.R_alloc | apply Kd.R_drewN | apply Kd.R_drew));exact d0.out,by repeat (first | (with_reducible first | exact HB.out | apply below_alloc | apply pw_below_drewN | apply below_drew1) | exact HB.out)⟩
end Go.Proofs.Ytjohcjfmlhihbaa.G
set_option linter.unusedSectionVars false
namespace Go.Proofs.Ytjohcjfmlhihbaa.P
open Go Go.RowKit Go.Proofs.Ytjohcjfmlhihbaa.G
open Go.Proofs.YtjohcjfmlhihbaaW.PrintWords Go.Proofs.YtjohcjfmlhihbaaW.PrintMore
theorem S23_ext {a b:S23} (h0:a.f0 = b.f0) (h1:a.f1 = b.f1):a = b:=by cases a;cases b;simp_all
instance:DecidableEq S23:=fun a b=>decidable_of_iff (a.f0 = b.f0 ∧ a.f1 = b.f1) ⟨fun h=>S23_ext h.1 h.2,fun h=>by rw [h];exact ⟨rfl,rfl⟩⟩
theorem rdT {a:List S23} {i:Nat} (h:i < a.length):rd_T23 a (i:Int) = a[i]:=by unfold rd_T23;simp [h]
theorem mn11 {n:Nat}:mn (n:Int) 11 = ((min n 11:Nat):Int):=by unfold mn;split <;> omega
theorem fracs_f (l:List S23):numnahlaw07_fracs.f l = some (l.take 11):=by
 unfold numnahlaw07_fracs.f
 rw [mn11,if_pos (by omega),if_pos (by omega),Int.toNat_natCast]
 simp only [Option.bind_some,List.nil_append,List.length_nil]
 rw [if_pos (by rw [List.length_take];omega)]
 congr 1
 by_cases h:l.length ≤ 11
 ·rw [List.take_of_length_le (by omega),List.take_of_length_le h]
 ·rw [show min l.length 11 = 11 by omega]
theorem IsRule.len {r:Nat} {q:List Rat} {E:Rat} {x:List Rat} (h:IsRule r q E x):x.length = q.length:=by
 obtain ⟨_,_,rfl,_⟩:=h
 exact List.length_map _
end Go.Proofs.Ytjohcjfmlhihbaa.P
namespace Go.Proofs.Ytjohcjfmlhihbaa.G
open Go.RowKit Go.Proofs.YtjohcjfmlhihbaaW.PrintWords Go.Proofs.YtjohcjfmlhihbaaW.PrintLast Go.Proofs.YtjohcjfmlhihbaaW.PrintMore
set_option maxHeartbeats 8000000
set_option maxRecDepth 100000
attribute [local go_sem] cond_true cond_false fld23_0 fld23_1 fld45_0 fld45_1 fld109_0 fld109_1 fld94_0 fld94_1 max2_int min2_int max_two min_two max_three min_three max_four min_four
def shares_sum.l0:Nat → List (S23) → Int → Int → Int → Int → Option (Int × Int)
 | 0,_,_,_,_,_=>none
 | k + 1,x7,x8,x9,d4,d5=>if x9 < x8 then (if 0 ≤ x9 then (if x9 < (x7.length:Int) then ((shares_add.f k d4 d5 ((rd_T23 x7 x9).f0) ((rd_T23 x7 x9).f1)).bind fun e1=>(shares_sum.l0 k x7 x8 (wrap64 (x9 + 1)) e1.1 e1.2)) else (none)) else (none)) else (some (d4,d5))
def shares_sum.f (k:Nat) (l0:List (S23)):Option (Int × Int):=(shares_whole.f 0).bind fun d0=>(shares_sum.l0 k l0 (l0.length:Int) 0 d0.1 d0.2)
theorem shares_sum.mono_l:∀ k,(∀ y0 y1 y2 y3 y4,LeO (shares_sum.l0 k y0 y1 y2 y3 y4) (shares_sum.l0 (k + 1) y0 y1 y2 y3 y4))
 | 0=>fun _ _ _ _ _ r h=>by simp [shares_sum.l0] at h
 | k + 1=>by
  have l6:=shares_sum.mono_l k
  intro y0 y1 y2 y3 y4
  unfold shares_sum.l0
  repeat' first
  | (with_reducible first | exact l6 _ _ _ _ _ | exact shares_add.mono _ _ _ _ _ | exact LeO.refl _ | exact LeO.none _ | refine LeO.ite ?_ ?_ | refine LeO.bind ?_ (fun _=>?_))
  | exact LeO.none _ | refine LeO.ite ?_ ?_ | refine LeO.bind ?_ (fun _=>?_)
theorem shares_sum.mono:∀ a0 k,LeO (shares_sum.f k a0) (shares_sum.f (k + 1) a0):=by
 intro a0 k
 have l6:=shares_sum.mono_l k
 unfold shares_sum.f
 repeat' first
   | (with_reducible first | exact l6 _ _ _ _ _ | exact shares_add.mono _ _ _ _ _ | exact LeO.refl _ | exact LeO.none _ | refine LeO.ite ?_ ?_ | refine LeO.bind ?_ (fun _=>?_))
   | exact LeO.none _ | refine LeO.ite ?_ ?_ | refine LeO.bind ?_ (fun _=>?_)
theorem shares_sum.calls (k:Nat) (A0:Option Addr) (c0:Nat) (l0:List (S23)) (r1:Int) (r2:Int) (w:World) (m2:Kd.C k23 w A0 l0.length l0) (m3:l0.length ≤ c0) (h:shares_sum.f k l0 = some (r1,r2)) :
  Calls Try.prog 83 #[.slice A0 l0.length c0] w fun e w'=>e = .returned (.agg #[.int .i64 r1,.int .i64 r2]) ∧ Below w.heap.size w w':=by
 have n5:=Try.underlying23
 have n6:=A_ m2
 have o1:=A_ m3
 clear m2 m3
 have HB:=A_ (Below.refl w.heap.size w)
 have H:((shares_whole.f 0).bind fun d0=>(shares_sum.l0 k l0 (l0.length:Int) 0 d0.1 d0.2)) = some (r1,r2):=h
 clear h
 replace H:=Option.bind_eq_some_iff.mp H
 obtain ⟨⟨d9,e2⟩,A20,H⟩:=H
 replace H:(shares_sum.l0 k l0 (l0.length:Int) 0 d9 e2) = some (r1,r2):=H
 have A2:=A_ A20
 clear A20
 have H':=A_ H
 clear H
 go_enter Try.func83,Try.ntmps83
 go_wp2_with (first | ((with_reducible refine gate_dst (N:=2) rfl ?_);refine bx 2 #[.int .i64 0,.int .i64 0] 23 ?_;intro d1 hg w3 hbox hb;have b3:=A_ hbox;have e6:=gw hg HB;have l7:=e6;replace HB:=bB HB hb;clear hb hbox hg) | ((with_reducible refine gate_callee (f:=64) rfl ?_);refine gL (some 6) Try.func64 #[.int .i64 0] ?_;(with_reducible refine (shares_whole.calls 0 d9 e2 _ A2.out).mono ?_);rintro e w4 ⟨rfl,hb⟩;refine ⟨_,rfl,?_⟩;replace b3:=kB b3 hb;replace HB:=bB HB hb;(try clear hb)) | ((with_reducible refine gate_dst (N:=3) rfl ?_);refine bx 3 #[.int .i64 0,.int .i64 0] 23 ?_;intro b5 hg w5 hbox hb;have b0:=A_ hbox;have e7:=gw hg HB;have l8:=e7;have b4:=nl hg b3;have b6:=ng hg b3;replace b3:=kB b3 hb;replace HB:=bB HB hb;clear hb hbox hg;have n7:=b6.out;have n8:=b4.out;have e8:w5.cell? ⟨b5,0,none⟩ = some (.int .i64 0):=cz b0 0;have e9:w5.cell? ⟨b5,1,none⟩ = some (.int .i64 0):=cz b0 1;have h0:=blk_frozen b0.out 0;have h1:=blk_frozen b0.out 1))
 go_loopg [9] k (fun kq v9 w'=>∃ (b9:Int) (b1:Int) (b2:Int),v9 = .int .i64 b9 ∧ Aside0 (shares_sum.l0 kq l0 (l0.length:Int) b9 b1 b2 = some (r1,r2)) ∧ Aside0 (kq ≤ k) ∧ Aside0 (w'.heap[d1]? = some (.cells #[.int .i64 0,.int .i64 0] 23 (0,0))) ∧ Aside0 (w'.heap[b5]? = some (.cells #[.int .i64 b1,.int .i64 b2] 23 (0,0))) ∧ Aside0 (Below w.heap.size w w'))
 case atStart=>exact ⟨(0),(d9),(e2),(by first | rfl | (simp;done) | (simp [*];done)),H',⟨Nat.le_refl _⟩,⟨by (with_reducible repeat (first | refine blk_drewN ?_ _ | refine blk_drew ?_ | refine blk_alloc ?_ _));refine blk_far ?_ b4.out _;(with_reducible repeat (first | refine blk_drewN ?_ _ | refine blk_drew ?_ | refine blk_alloc ?_ _));refine blk_far ?_ b4.out _;(with_reducible repeat (first | refine blk_drewN ?_ _ | refine blk_drew ?_ | refine blk_alloc ?_ _));exact b3.out⟩,⟨by (with_reducible repeat (first | refine blk_drewN ?_ _ | refine blk_drew ?_ | refine blk_alloc ?_ _));refine blk_put (cs:=#[.int .i64 d9,.int .i64 0]) ?_ 1 _ rfl;(with_reducible repeat (first | refine blk_drewN ?_ _ | refine blk_drew ?_ | refine blk_alloc ?_ _));refine blk_put (cs:=#[.int .i64 0,.int .i64 0]) ?_ 0 _ rfl;(with_reducible repeat (first | refine blk_drewN ?_ _ | refine blk_drew ?_ | refine blk_alloc ?_ _));exact b0.out⟩,⟨bl HB⟩⟩
 case round =>
  clear H'
  try clear p2
  try clear c6
  try clear e8
  try clear e9
  try clear h0
  try clear h1
  obtain ⟨b9,b1,b2,rfl,HA,m4,b3,b0,HB⟩:=hrel
  cases gk with
  | zero=>exact absurd HA.out (by simp [shares_sum.l0])
  | succ k1 =>
   have H:=HA.out
   clear HA
   simp only [shares_sum.l0] at H
   by_cases c8:b9 < (l0.length:Int)
   case neg =>
    rw [if_neg c8] at H
    have l9:=decide_eq_false c8
    clear c8
    simp only [Option.some.injEq,Prod.mk.injEq] at H
    obtain ⟨rfl,rfl⟩:=H
    have m5:=b6.out
    have m6:=b4.out
    have h4:wr.cell? ⟨b5,0,none⟩ = some (.int .i64 b1):=cz b0 0
    have h5:wr.cell? ⟨b5,1,none⟩ = some (.int .i64 b2):=cz b0 1
    have h6:=blk_frozen b0.out 0
    have h7:=blk_frozen b0.out 1
    have h8:wr.cell? ⟨d1,0,none⟩ = some (.int .i64 0):=cz b3 0
    have h9:wr.cell? ⟨d1,1,none⟩ = some (.int .i64 0):=cz b3 1
    have i0:=blk_frozen b3.out 0
    have i1:=blk_frozen b3.out 1
    go_wp2
    refine bodyPost_ret (results_cell_row rfl _ _ d1 23 #[.int .i64 b1,.int .i64 b2] (0,0) _ rfl (by (with_reducible repeat (first | refine blk_drewN ?_ _ | refine blk_drew ?_ | refine blk_alloc ?_ _));refine blk_put (cs:=#[.int .i64 b1,.int .i64 0]) ?_ 1 _ rfl;(with_reducible repeat (first | refine blk_drewN ?_ _ | refine blk_drew ?_ | refine blk_alloc ?_ _));refine blk_put (cs:=#[.int .i64 0,.int .i64 0]) ?_ 0 _ rfl;(with_reducible repeat (first | refine blk_drewN ?_ _ | refine blk_drew ?_ | refine blk_alloc ?_ _));exact b3.out) Try.underlying23 rfl (by kernel_rfl)) rfl ?_
    exact ⟨by first | rfl | (simp [errW_none,errW_some] <;> rfl) | (simp [*,errW_none,errW_some] <;> rfl),bl HB⟩
   rw [if_pos c8] at H
   have l9:=decide_eq_true c8
   clear c8
   replace H:=gd H
   obtain ⟨c9,H⟩:=H
   have n9:=decide_eq_true c9
   clear c9
   replace H:=gd H
   obtain ⟨c10,H⟩:=H
   have m7:=decide_eq_true c10
   clear c10
   replace H:=Option.bind_eq_some_iff.mp H
   obtain ⟨⟨e0,e3⟩,A110,H⟩:=H
   replace H:(shares_sum.l0 k1 l0 (l0.length:Int) (wrap64 (b9 + 1)) e0 e3) = some (r1,r2):=H
   have o0:=A_ A110
   clear A110
   have H':=A_ H
   clear H
   have e4:0 ≤ (b9:Int):=of_decide_eq_true (by first | (with_reducible assumption) | assumption)
   have e5:b9 < (l0.length:Int):=of_decide_eq_true (by first | (with_reducible assumption) | assumption)
   obtain ⟨m0,h3,d2,d3⟩:=at_T23 n6.out b9 e4 e5
   cases h3
   replace d2:=(HB.out.cell (World.block_lt_of_cell? w _ d2)).trans d2
   replace d3:=(HB.out.cell (World.block_lt_of_cell? w _ d3)).trans d3
   replace e4:=eq_true e4
   replace e5:=eq_true e5
   go_wp2_with (first | ((with_reducible refine gate_dst (N:=5) rfl ?_);refine bx 5 #[.int .i64 0,.int .i64 0] 23 ?_;intro d8 hg i2 hbox hb;have c1:=A_ hbox;have h2:=gw hg HB;have m1:=h2;have b7:=nl hg b3;have d6:=ng hg b3;have b8:=nl hg b0;have d7:=ng hg b0;replace b3:=kB b3 hb;replace b0:=kB b0 hb;replace HB:=bB HB hb;clear hb hbox hg;have m8:=d6.out;have m9:=b7.out;have n0:=d7.out;have n1:=b8.out;have i3:i2.cell? ⟨d8,0,none⟩ = some (.int .i64 0):=cz c1 0;have i4:i2.cell? ⟨d8,1,none⟩ = some (.int .i64 0):=cz c1 1;have i5:=blk_frozen c1.out 0;have i6:=blk_frozen c1.out 1;have n2:=b6.out;have n3:=b4.out;have i7:i2.cell? ⟨b5,0,none⟩ = some (.int .i64 b1):=cz b0 0;have i8:i2.cell? ⟨b5,1,none⟩ = some (.int .i64 b2):=cz b0 1;have i9:=blk_frozen b0.out 0;have j5:=blk_frozen b0.out 1) | ((with_reducible refine gate_callee (f:=88) rfl ?_);refine gL (some 15) Try.func88 #[.agg #[.int .i64 b1,.int .i64 b2],.agg #[.int .i64 ((rd_T23 l0 b9).f0),.int .i64 ((rd_T23 l0 b9).f1)]] ?_;(with_reducible refine (shares_add.calls k1 b1 b2 ((rd_T23 l0 b9).f0) ((rd_T23 l0 b9).f1) e0 e3 _ o0.out).mono ?_);rintro e n4 ⟨rfl,hb⟩;refine ⟨_,rfl,?_⟩;replace b3:=A_ (blk_below (g:=d1) (o:=.cells #[.int .i64 0,.int .i64 0] 23 (0,0)) (by (with_reducible repeat (first | refine blk_drewN ?_ _ | refine blk_drew ?_ | refine blk_alloc ?_ _));refine blk_far ?_ b7.out _;(with_reducible repeat (first | refine blk_drewN ?_ _ | refine blk_drew ?_ | refine blk_alloc ?_ _));refine blk_far ?_ b7.out _;(with_reducible repeat (first | refine blk_drewN ?_ _ | refine blk_drew ?_ | refine blk_alloc ?_ _));exact b3.out) hb);replace b0:=A_ (blk_below (g:=b5) (o:=.cells #[.int .i64 b1,.int .i64 b2] 23 (0,0)) (by (with_reducible repeat (first | refine blk_drewN ?_ _ | refine blk_drew ?_ | refine blk_alloc ?_ _));refine blk_far ?_ b8.out _;(with_reducible repeat (first | refine blk_drewN ?_ _ | refine blk_drew ?_ | refine blk_alloc ?_ _));refine blk_far ?_ b8.out _;(with_reducible repeat (first | refine blk_drewN ?_ _ | refine blk_drew ?_ | refine blk_alloc ?_ _));exact b0.out) hb);replace c1:=A_ (blk_below (g:=d8) (o:=.cells #[.int .i64 ((rd_T23 l0 b9).f0),.int .i64 ((rd_T23 l0 b9).f1)] 23 (0,0)) (by (with_reducible repeat (first | refine blk_drewN ?_ _ | refine blk_drew ?_ | refine blk_alloc ?_ _));refine blk_put (cs:=#[.int .i64 ((rd_T23 l0 b9).f0),.int .i64 0]) ?_ 1 _ rfl;(with_reducible repeat (first | refine blk_drewN ?_ _ | refine blk_drew ?_ | refine blk_alloc ?_ _));refine blk_put (cs:=#[.int .i64 0,.int .i64 0]) ?_ 0 _ rfl;(with_reducible repeat (first | refine blk_drewN ?_ _ | refine blk_drew ?_ | refine blk_alloc ?_ _));exact c1.out) hb);replace HB:=bB HB hb;(try clear hb);have j7:n4.cell? ⟨b5,0,none⟩ = some (.int .i64 b1):=cz b0 0;have j8:n4.cell? ⟨b5,1,none⟩ = some (.int .i64 b2):=cz b0 1;have j9:=blk_frozen b0.out 0;have l5:=blk_frozen b0.out 1))
   go_roundg k1
   case measure=>have:=m4.out;omega
   case rel=>exact ⟨(wrap64 (b9 + 1)),(e0),(e3),(by first | rfl | (simp;done) | (simp [*];done)),H',⟨by have:=m4.out;omega⟩,⟨by (with_reducible repeat (first | refine blk_drewN ?_ _ | refine blk_drew ?_ | refine blk_alloc ?_ _));refine blk_far ?_ b4.out _;(with_reducible repeat (first | refine blk_drewN ?_ _ | refine blk_drew ?_ | refine blk_alloc ?_ _));refine blk_far ?_ b4.out _;(with_reducible repeat (first | refine blk_drewN ?_ _ | refine blk_drew ?_ | refine blk_alloc ?_ _));exact b3.out⟩,⟨by (with_reducible repeat (first | refine blk_drewN ?_ _ | refine blk_drew ?_ | refine blk_alloc ?_ _));refine blk_put (cs:=#[.int .i64 e0,.int .i64 b2]) ?_ 1 _ rfl;(with_reducible repeat (first | refine blk_drewN ?_ _ | refine blk_drew ?_ | refine blk_alloc ?_ _));refine blk_put (cs:=#[.int .i64 b1,.int .i64 b2]) ?_ 0 _ rfl;(with_reducible repeat (first | refine blk_drewN ?_ _ | refine blk_drew ?_ | refine blk_alloc ?_ _));exact b0.out⟩,⟨bl HB⟩⟩
end Go.Proofs.Ytjohcjfmlhihbaa.G
namespace Go.Proofs.Ytjohcjfmlhihbaa.G
open Go.RowKit Go.Proofs.YtjohcjfmlhihbaaW.PrintWords Go.Proofs.YtjohcjfmlhihbaaW.PrintLast Go.Proofs.YtjohcjfmlhihbaaW.PrintMore
set_option maxHeartbeats 8000000
set_option maxRecDepth 100000
attribute [local go_sem] cond_true cond_false fld23_0 fld23_1 fld45_0 fld45_1 fld109_0 fld109_1 fld94_0 fld94_1 max2_int min2_int max_two min_two max_three min_three max_four min_four
attribute [local go_sem high] eqA23
def shares_claims_isAward.l0:Nat → List (S23) → List (S23) → Int → Int → List Int → Int → Option (Bool)
 | 0,_,_,_,_,_,_=>none
 | k + 1,x1,h9,o5,h2,d8,e4=>if h2 < o5 then (if 0 ≤ h2 then (if h2 < (h9.length:Int) then ((shares_within.f ((rd_T23 h9 h2).f1) 1 20).bind fun h1=>(if h1 = true then ((shares_isValid.f k ((rd_T23 h9 h2).f0) ((rd_T23 h9 h2).f1)).bind fun e3=>(if e3 = true then (if h2 < (d8.length:Int) then ((shares_within.f ((rd_T23 h9 h2).f0) 0 (wrap64 ((rd d8 h2) * ((rd_T23 h9 h2).f1)))).bind fun d6=>(if d6 = true then (shares_claims_isAward.l0 k x1 h9 o5 (wrap64 (h2 + 1)) d8 e4) else (some false))) else (none)) else (some false))) else (some false))) else (none)) else (none)) else ((shares_sum.f k x1).bind fun h3=>((shares_whole.f e4).bind fun h4=>(some (h3.1 == h4.1 && (h3.2 == h4.2)))))
def shares_claims_isAward.f (k:Nat) (b8:List Int) (d1:Int) (l1:List (S23)):Option (Bool):=if (l1.length:Int) = (b8.length:Int) then (shares_claims_isAward.l0 k l1 l1 (l1.length:Int) 0 b8 d1) else (some false)
theorem shares_claims_isAward.mono_l:∀ k,(∀ y0 y1 y2 y3 y4 y5,LeO (shares_claims_isAward.l0 k y0 y1 y2 y3 y4 y5) (shares_claims_isAward.l0 (k + 1) y0 y1 y2 y3 y4 y5))
 | 0=>fun _ _ _ _ _ _ r h=>by simp [shares_claims_isAward.l0] at h
 | k + 1=>by
  have n5:=shares_claims_isAward.mono_l k
  intro y0 y1 y2 y3 y4 y5
  unfold shares_claims_isAward.l0
  repeat' first
  | (with_reducible first | exact n5 _ _ _ _ _ _ | exact shares_isValid.mono _ _ _ | exact shares_sum.mono _ _ | exact LeO.refl _ | exact LeO.none _ | refine LeO.ite ?_ ?_ | refine LeO.bind ?_ (fun _=>?_))
  | exact LeO.none _ | refine LeO.ite ?_ ?_ | refine LeO.bind ?_ (fun _=>?_)
theorem shares_claims_isAward.mono:∀ a0 a1 a2 k,LeO (shares_claims_isAward.f k a0 a1 a2) (shares_claims_isAward.f (k + 1) a0 a1 a2):=by
 intro a0 a1 a2 k
 have n5:=shares_claims_isAward.mono_l k
 unfold shares_claims_isAward.f
 repeat' first
   | (with_reducible first | exact n5 _ _ _ _ _ _ | exact shares_isValid.mono _ _ _ | exact shares_sum.mono _ _ | exact LeO.refl _ | exact LeO.none _ | refine LeO.ite ?_ ?_ | refine LeO.bind ?_ (fun _=>?_))
   | exact LeO.none _ | refine LeO.ite ?_ ?_ | refine LeO.bind ?_ (fun _=>?_)
def shares_claims_isAward.T6:Bool × List (List Nat × List Nat):=(true,[([],[]),([0],[0]),([1],[1]),([2],[2]),([3,2],[3]),([4],[4]),([5,4,4],[4,5]),([6,4],[4,6]),([4,7],[4,7]),([8,6],[8]),([9],[9]),([10,9],[9,10]),([9],[9]),([12,9],[9,12]),([9],[9]),([13,14,9],[9,13,14]),([15,9],[9,15]),([9],[9]),([17,9],[9,17]),([16,18,9],[9,16,18]),([11,19,9,9],[9,11,19]),([20,9],[9,20]),([9,21],[9,21])])
def shares_claims_isAward.B6:List Nat:=[0,1,3,7,15,31,63,127,255,511,1023,2047,1023,5119,1023,29695,62463,1023,132095,521215,1048575,2097151,4194303]
theorem shares_claims_isAward.tab6:rtab .any (opsOf Try.f87 6) = shares_claims_isAward.T6:=by kernel_rfl
theorem shares_claims_isAward.bits6:waitsOk shares_claims_isAward.T6.2 shares_claims_isAward.B6 = true:=by kernel_rfl
theorem shares_claims_isAward.calls (k:Nat) (d7:Option Addr) (d5:Nat) (b8:List Int) (d1:Int) (A1:Option Addr) (c1:Nat) (l1:List (S23)) (r:Bool) (w:World) (h6:Kd.C (Kd.int .i64) w d7 b8.length b8) (h7:b8.length ≤ d5) (o6:Kd.C k23 w A1 l1.length l1) (o7:l1.length ≤ c1) (h:shares_claims_isAward.f k b8 d1 l1 = some r) :
  Calls Try.prog 87 #[.agg #[.slice d7 b8.length d5,.int .i64 d1],.slice A1 l1.length c1] w fun e w'=>e = .returned (.bool r) ∧ Below w.heap.size w w':=by
 have q3:=Try.underlying94
 have q4:=Try.underlying23
 have h8:=A_ h6
 have o8:=A_ h7
 clear h6 h7
 have i5:=A_ o6
 have q5:=A_ o7
 clear o6 o7
 have HB:=A_ (Below.refl w.heap.size w)
 have H:(if (l1.length:Int) = (b8.length:Int) then (shares_claims_isAward.l0 k l1 l1 (l1.length:Int) 0 b8 d1) else (some false)) = some r:=h
 clear h
 by_cases c3:(l1.length:Int) = (b8.length:Int)
 case neg =>
  rw [if_neg c3] at H
  have n6:((l1.length:Int) == (b8.length:Int)) = false:=beq_eq_false_iff_ne.mpr c3
  have n7:((l1.length:Int) != (b8.length:Int)) = true:=bne_iff_ne.mpr c3
  have n8:(l1.length == b8.length) = false:=by first | simpa using c3 | (simp at c3 ⊢;omega)
  obtain rfl:=Option.some.inj H
  go_enter Try.func87,Try.ntmps87
  go_wp2_with (first | ((with_reducible refine gate_dst (N:=2) rfl ?_);refine bx 2 #[.slice d7 b8.length d5,.int .i64 d1] 94 ?_;intro d0 hg o9 hbox hb;have b1:=A_ hbox;have e5:=gw hg HB;have i0:=e5;replace HB:=bB HB hb;clear hb hbox hg;have j8:o9.cell? ⟨d0,0,none⟩ = some (.slice d7 b8.length d5):=cz b1 0;have j9:o9.cell? ⟨d0,1,none⟩ = some (.int .i64 d1):=cz b1 1;have l5:=blk_frozen b1.out 0;have l6:=blk_frozen b1.out 1))
  go_ret
  exact ⟨by first | rfl | (simp [errW_none,errW_some] <;> rfl) | (simp [*,errW_none,errW_some] <;> rfl),bl HB⟩
 rw [if_pos c3] at H
 have n6:((l1.length:Int) == (b8.length:Int)) = true:=beq_iff_eq.mpr c3
 have n7:((l1.length:Int) != (b8.length:Int)) = false:=bne_eq_false_iff_eq.mpr c3
 have n8:(l1.length == b8.length) = true:=by first | simpa using c3 | (simp at c3 ⊢;omega)
 clear c3
 have H':=A_ H
 clear H
 go_enter Try.func87,Try.ntmps87
 go_wp2_with (first | ((with_reducible refine gate_dst (N:=2) rfl ?_);refine bx 2 #[.slice d7 b8.length d5,.int .i64 d1] 94 ?_;intro d0 hg w4 hbox hb;have b1:=A_ hbox;have e5:=gw hg HB;have i0:=e5;replace HB:=bB HB hb;clear hb hbox hg;have n9:w4.cell? ⟨d0,0,none⟩ = some (.slice d7 b8.length d5):=cz b1 0;have o0:w4.cell? ⟨d0,1,none⟩ = some (.int .i64 d1):=cz b1 1;have o1:=blk_frozen b1.out 0;have o2:=blk_frozen b1.out 1))
 go_loopg [15] k (fun kq q6 w'=>∃ (b0:Int),q6 = .int .i64 b0 ∧ Aside0 (shares_claims_isAward.l0 kq l1 l1 (l1.length:Int) b0 b8 d1 = some r) ∧ Aside0 (kq ≤ k) ∧ Aside0 (w'.heap[d0]? = some (.cells #[(.slice d7 b8.length d5),.int .i64 d1] 94 (0,0))) ∧ Aside0 (Below w.heap.size w w'))
 case atStart=>exact ⟨(0),(by first | rfl | (simp;done) | (simp [*];done)),H',⟨Nat.le_refl _⟩,⟨by (with_reducible repeat (first | refine blk_drewN ?_ _ | refine blk_drew ?_ | refine blk_alloc ?_ _));exact b1.out⟩,⟨bl HB⟩⟩
 case round =>
  clear H'
  obtain ⟨b0,rfl,HA,p0,b1,HB⟩:=hrel
  cases gk with
  | zero=>exact absurd HA.out (by simp [shares_claims_isAward.l0])
  | succ k1 =>
   have H:=HA.out
   clear HA
   simp only [shares_claims_isAward.l0] at H
   by_cases c6:b0 < (l1.length:Int)
   case neg =>
    rw [if_neg c6] at H
    have o3:=decide_eq_false c6
    clear c6
    replace H:=Option.bind_eq_some_iff.mp H
    obtain ⟨⟨i6,i7⟩,A390,H⟩:=H
    dsimp only at H
    have q7:=A_ A390
    clear A390
    replace H:=Option.bind_eq_some_iff.mp H
    obtain ⟨⟨i8,i9⟩,A400,H⟩:=H
    dsimp only at H
    have q8:=A_ A400
    clear A400
    obtain rfl:=Option.some.inj H
    try go_wp2
    replace b1:=kD b1
    replace HB:=bD HB
    refine start_ (n:=7) (S:=fun w'=>w'.cell? ⟨d0,0,none⟩ = some (.slice d7 b8.length d5) ∧ w'.cell? ⟨d0,1,none⟩ = some (.int .i64 d1)) (ds:=[]) (ba 7 0) (by kernel_rfl) rfl rfl ⟨cz b1 0,cz b1 1⟩ (fun hHeld=>?_)
    generalize wr.drew = r5 at b1 HB hHeld ⊢
    refine pr 0 44 1 ?_
    refine pr 2 46 5 ?_
    refine tr 3 47 13 hHeld ?_
    refine os 1 45 15 (fun K hK=>?_)
    refine gq Try.func83 #[.slice A1 l1.length c1] ?_
    with_reducible refine (shares_sum.calls k1 _ _ l1 i6 i7 _ ?side1 ?side2 q7.out).mono ?_
    (case side1=>exact cB i5 HB)
    (case side2=>exact q5.out)
    rintro e r6 ⟨rfl,hb⟩
    refine ⟨_,rfl,?_⟩
    replace b1:=kB b1 hb
    replace HB:=bB HB hb
    (try clear hb)
    refine hz hK (fun hHeld=>?_)
    clear hK K
    refine nq 45 ?_
    refine os 4 48 31 (fun K hK=>?_)
    refine gq Try.func64 #[.int .i64 d1] ?_
    with_reducible refine (shares_whole.calls d1 i8 i9 _ q8.out).mono ?_
    rintro e r7 ⟨rfl,hb⟩
    refine ⟨_,rfl,?_⟩
    replace b1:=kB b1 hb
    replace HB:=bB HB hb
    (try clear hb)
    refine hz hK (fun hHeld=>?_)
    clear hK K
    refine nq 48 ?_
    refine pr 5 49 63 ?_
    refine pr 6 4 127 ?_
    refine done_ (by kernel_rfl) ?_
    try go_wp2
    go_ret
    exact ⟨by first | rfl | (simp [errW_none,errW_some] <;> rfl) | (simp [*,errW_none,errW_some] <;> rfl),bl HB⟩
   rw [if_pos c6] at H
   have o3:=decide_eq_true c6
   clear c6
   replace H:=gd H
   obtain ⟨c7,H⟩:=H
   have q9:=decide_eq_true c7
   clear c7
   replace H:=gd H
   obtain ⟨c8,H⟩:=H
   have r0:=decide_eq_true c8
   clear c8
   replace H:=Option.bind_eq_some_iff.mp H
   obtain ⟨h1,p1,H⟩:=H
   replace H:(if h1 = true then ((shares_isValid.f k1 ((rd_T23 l1 b0).f0) ((rd_T23 l1 b0).f1)).bind fun e3=>(if e3 = true then (if b0 < (b8.length:Int) then ((shares_within.f ((rd_T23 l1 b0).f0) 0 (wrap64 ((rd b8 b0) * ((rd_T23 l1 b0).f1)))).bind fun d6=>(if d6 = true then (shares_claims_isAward.l0 k1 l1 l1 (l1.length:Int) (wrap64 (b0 + 1)) b8 d1) else (some false))) else (none)) else (some false))) else (some false)) = some r:=H
   have A9:=A_ p1
   clear p1
   by_cases c10:h1 = true
   case neg =>
    replace c10:=Bool.eq_false_iff.mpr c10
    subst c10
    rw [if_neg (show ¬ (false = true) by decide)] at H
    obtain rfl:=Option.some.inj H
    have d2:0 ≤ (b0:Int):=of_decide_eq_true (by first | (with_reducible assumption) | assumption)
    have d3:b0 < (l1.length:Int):=of_decide_eq_true (by first | (with_reducible assumption) | assumption)
    obtain ⟨e6,d9,b6,b7⟩:=at_T23 i5.out b0 d2 d3
    cases d9
    replace b6:=(HB.out.cell (World.block_lt_of_cell? w _ b6)).trans b6
    replace b7:=(HB.out.cell (World.block_lt_of_cell? w _ b7)).trans b7
    replace d2:=eq_true d2
    replace d3:=eq_true d3
    try go_wp2_with (first | ((with_reducible refine gate_dst (N:=6) rfl ?_);refine bx 6 #[.int .i64 0,.int .i64 0] 23 ?_;intro b3 hg i1 hbox hb;have b2:=A_ hbox;have d4:=gw hg HB;have e7:=d4;have b4:=nl hg b1;have b9:=ng hg b1;replace b1:=kB b1 hb;replace HB:=bB HB hb;clear hb hbox hg;have p2:=b9.out;have p3:=b4.out;have l7:i1.cell? ⟨b3,0,none⟩ = some (.int .i64 0):=cz b2 0;have l8:i1.cell? ⟨b3,1,none⟩ = some (.int .i64 0):=cz b2 1;have l9:=blk_frozen b2.out 0;have m0:=blk_frozen b2.out 1))
    have e8:Aside0 (((i1.setCell ⟨b3,0,none⟩ (.int .i64 ((rd_T23 l1 b0).f0))).setCell ⟨b3,1,none⟩ (.int .i64 ((rd_T23 l1 b0).f1))).heap[d0]? = some (.cells #[.slice d7 b8.length d5,.int .i64 d1] 94 (0,0))):=⟨by (with_reducible repeat (first | refine blk_drewN ?_ _ | refine blk_drew ?_ | refine blk_alloc ?_ _));refine blk_far ?_ b4.out _;(with_reducible repeat (first | refine blk_drewN ?_ _ | refine blk_drew ?_ | refine blk_alloc ?_ _));refine blk_far ?_ b4.out _;(with_reducible repeat (first | refine blk_drewN ?_ _ | refine blk_drew ?_ | refine blk_alloc ?_ _));exact b1.out⟩
    have e9:Aside0 (((i1.setCell ⟨b3,0,none⟩ (.int .i64 ((rd_T23 l1 b0).f0))).setCell ⟨b3,1,none⟩ (.int .i64 ((rd_T23 l1 b0).f1))).heap[b3]? = some (.cells #[.int .i64 ((rd_T23 l1 b0).f0),.int .i64 ((rd_T23 l1 b0).f1)] 23 (0,0))):=⟨by (with_reducible repeat (first | refine blk_drewN ?_ _ | refine blk_drew ?_ | refine blk_alloc ?_ _));refine blk_put (cs:=#[.int .i64 ((rd_T23 l1 b0).f0),.int .i64 0]) ?_ 1 _ rfl;(with_reducible repeat (first | refine blk_drewN ?_ _ | refine blk_drew ?_ | refine blk_alloc ?_ _));refine blk_put (cs:=#[.int .i64 0,.int .i64 0]) ?_ 0 _ rfl;(with_reducible repeat (first | refine blk_drewN ?_ _ | refine blk_drew ?_ | refine blk_alloc ?_ _));exact b2.out⟩
    have h0:Aside0 (Below w.heap.size w ((i1.setCell ⟨b3,0,none⟩ (.int .i64 ((rd_T23 l1 b0).f0))).setCell ⟨b3,1,none⟩ (.int .i64 ((rd_T23 l1 b0).f1)))):=⟨bl HB⟩
    generalize ((i1.setCell ⟨b3,0,none⟩ (.int .i64 ((rd_T23 l1 b0).f0))).setCell ⟨b3,1,none⟩ (.int .i64 ((rd_T23 l1 b0).f1))) = r1 at e8 e9 h0 ⊢
    have b1:=e8
    have b2:=e9
    have HB:=h0
    clear e8 e9 h0
    replace b1:=kD b1
    replace b2:=kD b2
    replace HB:=bD HB
    refine st 23 (fun w'=>w'.cell? ⟨b3,0,none⟩ = some (.int .i64 ((rd_T23 l1 b0).f0)) ∧ w'.cell? ⟨b3,1,none⟩ = some (.int .i64 ((rd_T23 l1 b0).f1))) [] shares_claims_isAward.tab6 shares_claims_isAward.bits6 (fun hHeld HT_ HW_=>?_)
    generalize r1.drew = r8 at b1 b2 HB hHeld ⊢
    refine pq 0 20 1 HT_ ?_
    refine tq 1 21 3 HT_ HW_ hHeld ?_
    refine oq 2 22 7 HT_ (fun K hK=>?_)
    refine gq Try.func92 #[.int .i64 ((rd_T23 l1 b0).f1),.int .i64 1,.int .i64 20] ?_
    with_reducible refine (shares_within.calls ((rd_T23 l1 b0).f1) 1 20 false _ A9.out).mono ?_
    rintro e w' ⟨rfl,⟨nd,rfl⟩⟩
    refine ⟨_,rfl,?_⟩
    refine hz hK (fun hHeld=>?_)
    clear hK K
    refine nq 22 ?_
    refine pq 3 23 15 HT_ ?_
    refine pq 4 24 31 HT_ ?_
    refine pu 5 25 63 HT_ ?_
    refine pu 6 26 127 HT_ ?_
    refine pu 7 27 255 HT_ ?_
    refine pq 8 28 511 HT_ ?_
    refine pq 9 29 1023 HT_ ?_
    refine pu 10 30 2047 HT_ ?_
    refine pu 11 31 4095 HT_ ?_
    refine pu 12 32 8191 HT_ ?_
    refine pu 13 33 16383 HT_ ?_
    refine pu 14 34 32767 HT_ ?_
    refine pu 15 35 65535 HT_ ?_
    refine pu 16 36 131071 HT_ ?_
    refine pu 17 37 262143 HT_ ?_
    refine pu 18 38 524287 HT_ ?_
    refine pu 19 39 1048575 HT_ ?_
    refine pu 20 40 2097151 HT_ ?_
    refine pu 21 41 4194303 HT_ ?_
    refine pq 22 42 8388607 HT_ ?_
    refine done_ (done_of HT_.out (by kernel_rfl)) ?_
    try go_wp2
    go_ret
    exact ⟨by first | rfl | (simp [errW_none,errW_some] <;> rfl) | (simp [*,errW_none,errW_some] <;> rfl),bl HB⟩
   subst c10
   rw [if_pos rfl] at H
   replace H:=Option.bind_eq_some_iff.mp H
   obtain ⟨e3,j5,H⟩:=H
   replace H:(if e3 = true then (if b0 < (b8.length:Int) then ((shares_within.f ((rd_T23 l1 b0).f0) 0 (wrap64 ((rd b8 b0) * ((rd_T23 l1 b0).f1)))).bind fun d6=>(if d6 = true then (shares_claims_isAward.l0 k1 l1 l1 (l1.length:Int) (wrap64 (b0 + 1)) b8 d1) else (some false))) else (none)) else (some false)) = some r:=H
   have o4:=A_ j5
   clear j5
   by_cases m1:e3 = true
   case neg =>
    replace m1:=Bool.eq_false_iff.mpr m1
    subst m1
    rw [if_neg (show ¬ (false = true) by decide)] at H
    obtain rfl:=Option.some.inj H
    have d2:0 ≤ (b0:Int):=of_decide_eq_true (by first | (with_reducible assumption) | assumption)
    have d3:b0 < (l1.length:Int):=of_decide_eq_true (by first | (with_reducible assumption) | assumption)
    obtain ⟨e6,d9,b6,b7⟩:=at_T23 i5.out b0 d2 d3
    cases d9
    replace b6:=(HB.out.cell (World.block_lt_of_cell? w _ b6)).trans b6
    replace b7:=(HB.out.cell (World.block_lt_of_cell? w _ b7)).trans b7
    replace d2:=eq_true d2
    replace d3:=eq_true d3
    try go_wp2_with (first | ((with_reducible refine gate_dst (N:=6) rfl ?_);refine bx 6 #[.int .i64 0,.int .i64 0] 23 ?_;intro b3 hg i2 hbox hb;have b2:=A_ hbox;have d4:=gw hg HB;have e7:=d4;have b4:=nl hg b1;have b9:=ng hg b1;replace b1:=kB b1 hb;replace HB:=bB HB hb;clear hb hbox hg;have p4:=b9.out;have p5:=b4.out;have m2:i2.cell? ⟨b3,0,none⟩ = some (.int .i64 0):=cz b2 0;have m3:i2.cell? ⟨b3,1,none⟩ = some (.int .i64 0):=cz b2 1;have m4:=blk_frozen b2.out 0;have m5:=blk_frozen b2.out 1))
    have e8:Aside0 (((i2.setCell ⟨b3,0,none⟩ (.int .i64 ((rd_T23 l1 b0).f0))).setCell ⟨b3,1,none⟩ (.int .i64 ((rd_T23 l1 b0).f1))).heap[d0]? = some (.cells #[.slice d7 b8.length d5,.int .i64 d1] 94 (0,0))):=⟨by (with_reducible repeat (first | refine blk_drewN ?_ _ | refine blk_drew ?_ | refine blk_alloc ?_ _));refine blk_far ?_ b4.out _;(with_reducible repeat (first | refine blk_drewN ?_ _ | refine blk_drew ?_ | refine blk_alloc ?_ _));refine blk_far ?_ b4.out _;(with_reducible repeat (first | refine blk_drewN ?_ _ | refine blk_drew ?_ | refine blk_alloc ?_ _));exact b1.out⟩
    have e9:Aside0 (((i2.setCell ⟨b3,0,none⟩ (.int .i64 ((rd_T23 l1 b0).f0))).setCell ⟨b3,1,none⟩ (.int .i64 ((rd_T23 l1 b0).f1))).heap[b3]? = some (.cells #[.int .i64 ((rd_T23 l1 b0).f0),.int .i64 ((rd_T23 l1 b0).f1)] 23 (0,0))):=⟨by (with_reducible repeat (first | refine blk_drewN ?_ _ | refine blk_drew ?_ | refine blk_alloc ?_ _));refine blk_put (cs:=#[.int .i64 ((rd_T23 l1 b0).f0),.int .i64 0]) ?_ 1 _ rfl;(with_reducible repeat (first | refine blk_drewN ?_ _ | refine blk_drew ?_ | refine blk_alloc ?_ _));refine blk_put (cs:=#[.int .i64 0,.int .i64 0]) ?_ 0 _ rfl;(with_reducible repeat (first | refine blk_drewN ?_ _ | refine blk_drew ?_ | refine blk_alloc ?_ _));exact b2.out⟩
    have h0:Aside0 (Below w.heap.size w ((i2.setCell ⟨b3,0,none⟩ (.int .i64 ((rd_T23 l1 b0).f0))).setCell ⟨b3,1,none⟩ (.int .i64 ((rd_T23 l1 b0).f1)))):=⟨bl HB⟩
    generalize ((i2.setCell ⟨b3,0,none⟩ (.int .i64 ((rd_T23 l1 b0).f0))).setCell ⟨b3,1,none⟩ (.int .i64 ((rd_T23 l1 b0).f1))) = r2 at e8 e9 h0 ⊢
    have b1:=e8
    have b2:=e9
    have HB:=h0
    clear e8 e9 h0
    replace b1:=kD b1
    replace b2:=kD b2
    replace HB:=bD HB
    refine st 23 (fun w'=>w'.cell? ⟨b3,0,none⟩ = some (.int .i64 ((rd_T23 l1 b0).f0)) ∧ w'.cell? ⟨b3,1,none⟩ = some (.int .i64 ((rd_T23 l1 b0).f1))) [] shares_claims_isAward.tab6 shares_claims_isAward.bits6 (fun hHeld HT_ HW_=>?_)
    generalize r2.drew = r9 at b1 b2 HB hHeld ⊢
    refine pq 0 20 1 HT_ ?_
    refine tq 1 21 3 HT_ HW_ hHeld ?_
    refine oq 2 22 7 HT_ (fun K hK=>?_)
    refine gq Try.func92 #[.int .i64 ((rd_T23 l1 b0).f1),.int .i64 1,.int .i64 20] ?_
    with_reducible refine (shares_within.calls ((rd_T23 l1 b0).f1) 1 20 true _ A9.out).mono ?_
    rintro e w' ⟨rfl,⟨nd,rfl⟩⟩
    refine ⟨_,rfl,?_⟩
    refine hz hK (fun hHeld=>?_)
    clear hK K
    refine nq 22 ?_
    refine pq 3 23 15 HT_ ?_
    refine pq 4 24 31 HT_ ?_
    refine tq 5 25 63 HT_ HW_ hHeld ?_
    refine oq 6 26 127 HT_ (fun K hK=>?_)
    refine gq Try.func112 #[.agg #[.int .i64 ((rd_T23 l1 b0).f0),.int .i64 ((rd_T23 l1 b0).f1)]] ?_
    with_reducible refine (shares_isValid.calls k1 ((rd_T23 l1 b0).f0) ((rd_T23 l1 b0).f1) false _ o4.out).mono ?_
    rintro e s0 ⟨rfl,hb⟩
    refine ⟨_,rfl,?_⟩
    replace b1:=kB b1 hb
    replace b2:=kB b2 hb
    replace HB:=bB HB hb
    (try clear hb)
    refine hz hK (fun hHeld=>?_)
    clear hK K
    refine nq 26 ?_
    refine pq 7 27 255 HT_ ?_
    refine pq 8 28 511 HT_ ?_
    refine pq 9 29 1023 HT_ ?_
    refine pu 10 30 2047 HT_ ?_
    refine pu 11 31 4095 HT_ ?_
    refine pu 12 32 8191 HT_ ?_
    refine pu 13 33 16383 HT_ ?_
    refine pu 14 34 32767 HT_ ?_
    refine pu 15 35 65535 HT_ ?_
    refine pu 16 36 131071 HT_ ?_
    refine pu 17 37 262143 HT_ ?_
    refine pu 18 38 524287 HT_ ?_
    refine pu 19 39 1048575 HT_ ?_
    refine pu 20 40 2097151 HT_ ?_
    refine pu 21 41 4194303 HT_ ?_
    refine pq 22 42 8388607 HT_ ?_
    refine done_ (done_of HT_.out (by kernel_rfl)) ?_
    try go_wp2
    go_ret
    exact ⟨by first | rfl | (simp [errW_none,errW_some] <;> rfl) | (simp [*,errW_none,errW_some] <;> rfl),bl HB⟩
   subst m1
   rw [if_pos rfl] at H
   replace H:=gd H
   obtain ⟨p6,H⟩:=H
   have p7:=decide_eq_true p6
   clear p6
   replace H:=Option.bind_eq_some_iff.mp H
   obtain ⟨d6,j7,H⟩:=H
   replace H:(if d6 = true then (shares_claims_isAward.l0 k1 l1 l1 (l1.length:Int) (wrap64 (b0 + 1)) b8 d1) else (some false)) = some r:=H
   have p8:=A_ j7
   clear j7
   by_cases m6:d6 = true
   case neg =>
    replace m6:=Bool.eq_false_iff.mpr m6
    subst m6
    rw [if_neg (show ¬ (false = true) by decide)] at H
    obtain rfl:=Option.some.inj H
    have d2:0 ≤ (b0:Int):=of_decide_eq_true (by first | (with_reducible assumption) | assumption)
    have d3:b0 < (l1.length:Int):=of_decide_eq_true (by first | (with_reducible assumption) | assumption)
    obtain ⟨e6,d9,b6,b7⟩:=at_T23 i5.out b0 d2 d3
    cases d9
    replace b6:=(HB.out.cell (World.block_lt_of_cell? w _ b6)).trans b6
    replace b7:=(HB.out.cell (World.block_lt_of_cell? w _ b7)).trans b7
    replace d2:=eq_true d2
    replace d3:=eq_true d3
    try go_wp2_with (first | ((with_reducible refine gate_dst (N:=6) rfl ?_);refine bx 6 #[.int .i64 0,.int .i64 0] 23 ?_;intro b3 hg i3 hbox hb;have b2:=A_ hbox;have d4:=gw hg HB;have e7:=d4;have b4:=nl hg b1;have b9:=ng hg b1;replace b1:=kB b1 hb;replace HB:=bB HB hb;clear hb hbox hg;have p9:=b9.out;have q0:=b4.out;have m7:i3.cell? ⟨b3,0,none⟩ = some (.int .i64 0):=cz b2 0;have m8:i3.cell? ⟨b3,1,none⟩ = some (.int .i64 0):=cz b2 1;have m9:=blk_frozen b2.out 0;have n0:=blk_frozen b2.out 1))
    have e8:Aside0 (((i3.setCell ⟨b3,0,none⟩ (.int .i64 ((rd_T23 l1 b0).f0))).setCell ⟨b3,1,none⟩ (.int .i64 ((rd_T23 l1 b0).f1))).heap[d0]? = some (.cells #[.slice d7 b8.length d5,.int .i64 d1] 94 (0,0))):=⟨by (with_reducible repeat (first | refine blk_drewN ?_ _ | refine blk_drew ?_ | refine blk_alloc ?_ _));refine blk_far ?_ b4.out _;(with_reducible repeat (first | refine blk_drewN ?_ _ | refine blk_drew ?_ | refine blk_alloc ?_ _));refine blk_far ?_ b4.out _;(with_reducible repeat (first | refine blk_drewN ?_ _ | refine blk_drew ?_ | refine blk_alloc ?_ _));exact b1.out⟩
    have e9:Aside0 (((i3.setCell ⟨b3,0,none⟩ (.int .i64 ((rd_T23 l1 b0).f0))).setCell ⟨b3,1,none⟩ (.int .i64 ((rd_T23 l1 b0).f1))).heap[b3]? = some (.cells #[.int .i64 ((rd_T23 l1 b0).f0),.int .i64 ((rd_T23 l1 b0).f1)] 23 (0,0))):=⟨by (with_reducible repeat (first | refine blk_drewN ?_ _ | refine blk_drew ?_ | refine blk_alloc ?_ _));refine blk_put (cs:=#[.int .i64 ((rd_T23 l1 b0).f0),.int .i64 0]) ?_ 1 _ rfl;(with_reducible repeat (first | refine blk_drewN ?_ _ | refine blk_drew ?_ | refine blk_alloc ?_ _));refine blk_put (cs:=#[.int .i64 0,.int .i64 0]) ?_ 0 _ rfl;(with_reducible repeat (first | refine blk_drewN ?_ _ | refine blk_drew ?_ | refine blk_alloc ?_ _));exact b2.out⟩
    have h0:Aside0 (Below w.heap.size w ((i3.setCell ⟨b3,0,none⟩ (.int .i64 ((rd_T23 l1 b0).f0))).setCell ⟨b3,1,none⟩ (.int .i64 ((rd_T23 l1 b0).f1)))):=⟨bl HB⟩
    generalize ((i3.setCell ⟨b3,0,none⟩ (.int .i64 ((rd_T23 l1 b0).f0))).setCell ⟨b3,1,none⟩ (.int .i64 ((rd_T23 l1 b0).f1))) = r3 at e8 e9 h0 ⊢
    have b1:=e8
    have b2:=e9
    have HB:=h0
    clear e8 e9 h0
    replace b1:=kD b1
    replace b2:=kD b2
    replace HB:=bD HB
    have e0:0 ≤ (b0:Int):=of_decide_eq_true (by first | (with_reducible assumption) | assumption)
    have e1:b0 < (b8.length:Int):=of_decide_eq_true (by first | (with_reducible assumption) | assumption)
    obtain ⟨e2,h5,c0⟩:=Kd.at_int h8.out b0 e0 e1
    have b5:=c0
    cases h5
    replace c0:=(HB.out.cell (World.block_lt_of_cell? w _ c0)).trans c0
    replace e0:=eq_true e0
    replace e1:=eq_true e1
    refine start_ (n:=23) (S:=fun w'=>w'.cell? ⟨b3,0,none⟩ = some (.int .i64 ((rd_T23 l1 b0).f0)) ∧ w'.cell? ⟨b3,1,none⟩ = some (.int .i64 ((rd_T23 l1 b0).f1)) ∧ w'.cell? ⟨d0,0,none⟩ = some (.slice (some e2) b8.length d5) ∧ w'.cell? ⟨d0,1,none⟩ = some (.int .i64 d1) ∧ w'.cell? (e2.add (b0).toNat) = some (.int .i64 (rd b8 b0))) (ds:=[]) (ba 23 0) (by kernel_rfl) rfl rfl ⟨cz b2 0,cz b2 1,cz b1 0,cz b1 1,((HB.out.cell (World.block_lt_of_cell? w _ b5)).trans b5)⟩ (fun hHeld=>?_);refine with_tabW shares_claims_isAward.tab6 shares_claims_isAward.bits6 (fun HT_ HW_=>?_)
    generalize r3.drew = s1 at b1 b2 HB c0 hHeld ⊢
    refine pq 0 20 1 HT_ ?_
    refine tq 1 21 3 HT_ HW_ hHeld ?_
    refine oq 2 22 7 HT_ (fun K hK=>?_)
    refine gq Try.func92 #[.int .i64 ((rd_T23 l1 b0).f1),.int .i64 1,.int .i64 20] ?_
    with_reducible refine (shares_within.calls ((rd_T23 l1 b0).f1) 1 20 true _ A9.out).mono ?_
    rintro e w' ⟨rfl,⟨nd,rfl⟩⟩
    refine ⟨_,rfl,?_⟩
    refine hK.out _ _ ⟨cz b2 0,cz b2 1,cz b1 0,cz b1 1,((HB.out.cell (World.block_lt_of_cell? w _ b5)).trans b5)⟩ (fun hHeld=>?_)
    clear hK K
    refine nq 22 ?_
    refine pq 3 23 15 HT_ ?_
    refine pq 4 24 31 HT_ ?_
    refine tq 5 25 63 HT_ HW_ hHeld ?_
    refine oq 6 26 127 HT_ (fun K hK=>?_)
    refine gq Try.func112 #[.agg #[.int .i64 ((rd_T23 l1 b0).f0),.int .i64 ((rd_T23 l1 b0).f1)]] ?_
    with_reducible refine (shares_isValid.calls k1 ((rd_T23 l1 b0).f0) ((rd_T23 l1 b0).f1) true _ o4.out).mono ?_
    rintro e s2 ⟨rfl,hb⟩
    refine ⟨_,rfl,?_⟩
    replace b1:=kB b1 hb
    replace b2:=kB b2 hb
    replace HB:=bB HB hb
    (try clear hb)
    refine hK.out _ _ ⟨cz b2 0,cz b2 1,cz b1 0,cz b1 1,((HB.out.cell (World.block_lt_of_cell? w _ b5)).trans b5)⟩ (fun hHeld=>?_)
    clear hK K
    refine nq 26 ?_
    refine pq 7 27 255 HT_ ?_
    refine pq 8 28 511 HT_ ?_
    refine pq 9 29 1023 HT_ ?_
    refine pq 10 30 2047 HT_ ?_
    refine pq 12 32 6143 HT_ ?_
    refine pq 14 34 22527 HT_ ?_
    refine pq 17 37 153599 HT_ ?_
    refine tq 11 31 155647 HT_ HW_ hHeld ?_
    refine tq 13 33 163839 HT_ HW_ hHeld ?_
    refine pq 15 35 196607 HT_ ?_
    refine tq 16 36 262143 HT_ HW_ hHeld ?_
    refine tq 18 38 524287 HT_ HW_ hHeld ?_
    refine pq 19 39 1048575 HT_ ?_
    refine oq 20 40 2097151 HT_ (fun K hK=>?_)
    refine gq Try.func92 #[.int .i64 ((rd_T23 l1 b0).f0),.int .i64 0,.int .i64 (wrap64 ((rd b8 b0) * ((rd_T23 l1 b0).f1)))] ?_
    with_reducible refine (shares_within.calls ((rd_T23 l1 b0).f0) 0 (wrap64 ((rd b8 b0) * ((rd_T23 l1 b0).f1))) false _ p8.out).mono ?_
    rintro e w' ⟨rfl,⟨nd,rfl⟩⟩
    refine ⟨_,rfl,?_⟩
    refine hK.out _ _ ⟨cz b2 0,cz b2 1,cz b1 0,cz b1 1,((HB.out.cell (World.block_lt_of_cell? w _ b5)).trans b5)⟩ (fun hHeld=>?_)
    clear hK K
    refine nq 40 ?_
    refine pq 21 41 4194303 HT_ ?_
    refine pq 22 42 8388607 HT_ ?_
    refine done_ (done_of HT_.out (by kernel_rfl)) ?_
    try go_wp2
    go_ret
    exact ⟨by first | rfl | (simp [errW_none,errW_some] <;> rfl) | (simp [*,errW_none,errW_some] <;> rfl),bl HB⟩
   subst m6
   rw [if_pos rfl] at H
   have H':=A_ H
   clear H
   have d2:0 ≤ (b0:Int):=of_decide_eq_true (by first | (with_reducible assumption) | assumption)
   have d3:b0 < (l1.length:Int):=of_decide_eq_true (by first | (with_reducible assumption) | assumption)
   obtain ⟨e6,d9,b6,b7⟩:=at_T23 i5.out b0 d2 d3
   cases d9
   replace b6:=(HB.out.cell (World.block_lt_of_cell? w _ b6)).trans b6
   replace b7:=(HB.out.cell (World.block_lt_of_cell? w _ b7)).trans b7
   replace d2:=eq_true d2
   replace d3:=eq_true d3
   try go_wp2_with (first | ((with_reducible refine gate_dst (N:=6) rfl ?_);refine bx 6 #[.int .i64 0,.int .i64 0] 23 ?_;intro b3 hg i4 hbox hb;have b2:=A_ hbox;have d4:=gw hg HB;have e7:=d4;have b4:=nl hg b1;have b9:=ng hg b1;replace b1:=kB b1 hb;replace HB:=bB HB hb;clear hb hbox hg;have q1:=b9.out;have q2:=b4.out;have n1:i4.cell? ⟨b3,0,none⟩ = some (.int .i64 0):=cz b2 0;have n2:i4.cell? ⟨b3,1,none⟩ = some (.int .i64 0):=cz b2 1;have n3:=blk_frozen b2.out 0;have n4:=blk_frozen b2.out 1))
   have e8:Aside0 (((i4.setCell ⟨b3,0,none⟩ (.int .i64 ((rd_T23 l1 b0).f0))).setCell ⟨b3,1,none⟩ (.int .i64 ((rd_T23 l1 b0).f1))).heap[d0]? = some (.cells #[.slice d7 b8.length d5,.int .i64 d1] 94 (0,0))):=⟨by (with_reducible repeat (first | refine blk_drewN ?_ _ | refine blk_drew ?_ | refine blk_alloc ?_ _));refine blk_far ?_ b4.out _;(with_reducible repeat (first | refine blk_drewN ?_ _ | refine blk_drew ?_ | refine blk_alloc ?_ _));refine blk_far ?_ b4.out _;(with_reducible repeat (first | refine blk_drewN ?_ _ | refine blk_drew ?_ | refine blk_alloc ?_ _));exact b1.out⟩
   have e9:Aside0 (((i4.setCell ⟨b3,0,none⟩ (.int .i64 ((rd_T23 l1 b0).f0))).setCell ⟨b3,1,none⟩ (.int .i64 ((rd_T23 l1 b0).f1))).heap[b3]? = some (.cells #[.int .i64 ((rd_T23 l1 b0).f0),.int .i64 ((rd_T23 l1 b0).f1)] 23 (0,0))):=⟨by (with_reducible repeat (first | refine blk_drewN ?_ _ | refine blk_drew ?_ | refine blk_alloc ?_ _));refine blk_put (cs:=#[.int .i64 ((rd_T23 l1 b0).f0),.int .i64 0]) ?_ 1 _ rfl;(with_reducible repeat (first | refine blk_drewN ?_ _ | refine blk_drew ?_ | refine blk_alloc ?_ _));refine blk_put (cs:=#[.int .i64 0,.int .i64 0]) ?_ 0 _ rfl;(with_reducible repeat (first | refine blk_drewN ?_ _ | refine blk_drew ?_ | refine blk_alloc ?_ _));exact b2.out⟩
   have h0:Aside0 (Below w.heap.size w ((i4.setCell ⟨b3,0,none⟩ (.int .i64 ((rd_T23 l1 b0).f0))).setCell ⟨b3,1,none⟩ (.int .i64 ((rd_T23 l1 b0).f1)))):=⟨bl HB⟩
   generalize ((i4.setCell ⟨b3,0,none⟩ (.int .i64 ((rd_T23 l1 b0).f0))).setCell ⟨b3,1,none⟩ (.int .i64 ((rd_T23 l1 b0).f1))) = r4 at e8 e9 h0 ⊢
   have b1:=e8
   have b2:=e9
   have HB:=h0
   clear e8 e9 h0
   replace b1:=kD b1
   replace b2:=kD b2
   replace HB:=bD HB
   have e0:0 ≤ (b0:Int):=of_decide_eq_true (by first | (with_reducible assumption) | assumption)
   have e1:b0 < (b8.length:Int):=of_decide_eq_true (by first | (with_reducible assumption) | assumption)
   obtain ⟨e2,h5,c0⟩:=Kd.at_int h8.out b0 e0 e1
   have b5:=c0
   cases h5
   replace c0:=(HB.out.cell (World.block_lt_of_cell? w _ c0)).trans c0
   replace e0:=eq_true e0
   replace e1:=eq_true e1
   refine start_ (n:=23) (S:=fun w'=>w'.cell? ⟨b3,0,none⟩ = some (.int .i64 ((rd_T23 l1 b0).f0)) ∧ w'.cell? ⟨b3,1,none⟩ = some (.int .i64 ((rd_T23 l1 b0).f1)) ∧ w'.cell? ⟨d0,0,none⟩ = some (.slice (some e2) b8.length d5) ∧ w'.cell? ⟨d0,1,none⟩ = some (.int .i64 d1) ∧ w'.cell? (e2.add (b0).toNat) = some (.int .i64 (rd b8 b0))) (ds:=[]) (ba 23 0) (by kernel_rfl) rfl rfl ⟨cz b2 0,cz b2 1,cz b1 0,cz b1 1,((HB.out.cell (World.block_lt_of_cell? w _ b5)).trans b5)⟩ (fun hHeld=>?_);refine with_tabW shares_claims_isAward.tab6 shares_claims_isAward.bits6 (fun HT_ HW_=>?_)
   generalize r4.drew = s3 at b1 b2 HB c0 hHeld ⊢
   refine pq 0 20 1 HT_ ?_
   refine tq 1 21 3 HT_ HW_ hHeld ?_
   refine oq 2 22 7 HT_ (fun K hK=>?_)
   refine gq Try.func92 #[.int .i64 ((rd_T23 l1 b0).f1),.int .i64 1,.int .i64 20] ?_
   with_reducible refine (shares_within.calls ((rd_T23 l1 b0).f1) 1 20 true _ A9.out).mono ?_
   rintro e w' ⟨rfl,⟨nd,rfl⟩⟩
   refine ⟨_,rfl,?_⟩
   refine hK.out _ _ ⟨cz b2 0,cz b2 1,cz b1 0,cz b1 1,((HB.out.cell (World.block_lt_of_cell? w _ b5)).trans b5)⟩ (fun hHeld=>?_)
   clear hK K
   refine nq 22 ?_
   refine pq 3 23 15 HT_ ?_
   refine pq 4 24 31 HT_ ?_
   refine tq 5 25 63 HT_ HW_ hHeld ?_
   refine oq 6 26 127 HT_ (fun K hK=>?_)
   refine gq Try.func112 #[.agg #[.int .i64 ((rd_T23 l1 b0).f0),.int .i64 ((rd_T23 l1 b0).f1)]] ?_
   with_reducible refine (shares_isValid.calls k1 ((rd_T23 l1 b0).f0) ((rd_T23 l1 b0).f1) true _ o4.out).mono ?_
   rintro e s4 ⟨rfl,hb⟩
   refine ⟨_,rfl,?_⟩
   replace b1:=kB b1 hb
   replace b2:=kB b2 hb
   replace HB:=bB HB hb
   (try clear hb)
   refine hK.out _ _ ⟨cz b2 0,cz b2 1,cz b1 0,cz b1 1,((HB.out.cell (World.block_lt_of_cell? w _ b5)).trans b5)⟩ (fun hHeld=>?_)
   clear hK K
   refine nq 26 ?_
   refine pq 7 27 255 HT_ ?_
   refine pq 8 28 511 HT_ ?_
   refine pq 9 29 1023 HT_ ?_
   refine pq 10 30 2047 HT_ ?_
   refine pq 12 32 6143 HT_ ?_
   refine pq 14 34 22527 HT_ ?_
   refine pq 17 37 153599 HT_ ?_
   refine tq 11 31 155647 HT_ HW_ hHeld ?_
   refine tq 13 33 163839 HT_ HW_ hHeld ?_
   refine pq 15 35 196607 HT_ ?_
   refine tq 16 36 262143 HT_ HW_ hHeld ?_
   refine tq 18 38 524287 HT_ HW_ hHeld ?_
   refine pq 19 39 1048575 HT_ ?_
   refine oq 20 40 2097151 HT_ (fun K hK=>?_)
   refine gq Try.func92 #[.int .i64 ((rd_T23 l1 b0).f0),.int .i64 0,.int .i64 (wrap64 ((rd b8 b0) * ((rd_T23 l1 b0).f1)))] ?_
   with_reducible refine (shares_within.calls ((rd_T23 l1 b0).f0) 0 (wrap64 ((rd b8 b0) * ((rd_T23 l1 b0).f1))) true _ p8.out).mono ?_
   rintro e w' ⟨rfl,⟨nd,rfl⟩⟩
   refine ⟨_,rfl,?_⟩
   refine hK.out _ _ ⟨cz b2 0,cz b2 1,cz b1 0,cz b1 1,((HB.out.cell (World.block_lt_of_cell? w _ b5)).trans b5)⟩ (fun hHeld=>?_)
   clear hK K
   refine nq 40 ?_
   refine pq 21 41 4194303 HT_ ?_
   refine pq 22 42 8388607 HT_ ?_
   refine done_ (done_of HT_.out (by kernel_rfl)) ?_
   try go_wp2
   go_roundg k1
   case measure=>have:=p0.out;omega
   case rel=>exact ⟨(wrap64 (b0 + 1)),(by first | rfl | (simp;done) | (simp [*];done)),H',⟨by have:=p0.out;omega⟩,⟨by (with_reducible repeat (first | refine blk_drewN ?_ _ | refine blk_drew ?_ | refine blk_alloc ?_ _));exact b1.out⟩,⟨bl HB⟩⟩
end Go.Proofs.Ytjohcjfmlhihbaa.G
namespace Go.Proofs.Ytjohcjfmlhihbaa.G
open Go.RowKit Go.Proofs.YtjohcjfmlhihbaaW.PrintWords Go.Proofs.YtjohcjfmlhihbaaW.PrintLast Go.Proofs.YtjohcjfmlhihbaaW.PrintMore
set_option maxHeartbeats 8000000
set_option maxRecDepth 100000
attribute [local go_sem] cond_true cond_false fld23_0 fld23_1 fld45_0 fld45_1 fld109_0 fld109_1 fld94_0 fld94_1 max2_int min2_int max_two min_two max_three min_three max_four min_four
attribute [local go_sem high] eqA23
def numnahref07_Divides.l0:Nat → List Int → Int → List (S23) → Int → Int → Int → Option (Bool)
 | 0,_,_,_,_,_,_=>none
 | k + 1,x0,x1,x2,x8,h1,h2=>if x8 < (x0.length:Int) then (if 0 ≤ x8 then (if x8 < (x2.length:Int) then ((numnahref07_Within.f k ((rd_T23 x2 x8).f0) ((rd_T23 x2 x8).f1) 0 20000 20).bind fun h6=>(if h6 = true then ((numnahref07_Whole.f (rd x0 x8)).bind fun e2=>((numnahref07_Less.f e2.1 e2.2 ((rd_T23 x2 x8).f0) ((rd_T23 x2 x8).f1)).bind fun e8=>(if e8 = true then (some false) else ((numnahref07_Add.f k h1 h2 ((rd_T23 x2 x8).f0) ((rd_T23 x2 x8).f1)).bind fun d5=>(numnahref07_Divides.l0 k x0 x1 x2 (wrap64 (x8 + 1)) d5.1 d5.2))))) else (some false))) else (none)) else (none)) else ((numnahref07_Whole.f x1).bind fun h7=>(some (h1 == h7.1 && (h2 == h7.2))))
def numnahref07_Divides.f (k:Nat) (l0:List Int) (a1:Int) (l2:List (S23)):Option (Bool):=if (l2.length:Int) = (l0.length:Int) then ((numnahref07_Whole.f 0).bind fun e3=>(numnahref07_Divides.l0 k l0 a1 l2 0 e3.1 e3.2)) else (some false)
theorem numnahref07_Divides.mono_l:∀ k,(∀ y0 y1 y2 y3 y4 y5,LeO (numnahref07_Divides.l0 k y0 y1 y2 y3 y4 y5) (numnahref07_Divides.l0 (k + 1) y0 y1 y2 y3 y4 y5))
 | 0=>fun _ _ _ _ _ _ r h=>by simp [numnahref07_Divides.l0] at h
 | k + 1=>by
  have l7:=numnahref07_Divides.mono_l k
  intro y0 y1 y2 y3 y4 y5
  unfold numnahref07_Divides.l0
  repeat' first
  | (with_reducible first | exact l7 _ _ _ _ _ _ | exact numnahref07_Add.mono _ _ _ _ _ | exact numnahref07_Within.mono _ _ _ _ _ _ | exact LeO.refl _ | exact LeO.none _ | refine LeO.ite ?_ ?_ | refine LeO.bind ?_ (fun _=>?_))
  | exact LeO.none _ | refine LeO.ite ?_ ?_ | refine LeO.bind ?_ (fun _=>?_)
theorem numnahref07_Divides.mono:∀ a0 a1 a2 k,LeO (numnahref07_Divides.f k a0 a1 a2) (numnahref07_Divides.f (k + 1) a0 a1 a2):=by
 intro a0 a1 a2 k
 have l7:=numnahref07_Divides.mono_l k
 unfold numnahref07_Divides.f
 repeat' first
   | (with_reducible first | exact l7 _ _ _ _ _ _ | exact numnahref07_Add.mono _ _ _ _ _ | exact numnahref07_Within.mono _ _ _ _ _ _ | exact LeO.refl _ | exact LeO.none _ | refine LeO.ite ?_ ?_ | refine LeO.bind ?_ (fun _=>?_))
   | exact LeO.none _ | refine LeO.ite ?_ ?_ | refine LeO.bind ?_ (fun _=>?_)
def numnahref07_Divides.T7:Bool × List (List Nat × List Nat):=(true,[([],[]),([],[]),([0,1],[0,1]),([2],[2]),([3],[3]),([4],[4]),([5,4],[5]),([6],[6]),([6],[6]),([7,8,6],[6,7,8]),([9,6],[6,9]),([10,6,6],[6,10]),([6],[6]),([6],[6]),([12,13,6],[6,12,13]),([14,6],[6,14]),([11,15,11,6],[6,11,15]),([6,16],[6,16])])
def numnahref07_Divides.B7:List Nat:=[0,0,3,7,15,31,63,127,127,511,1023,2047,127,127,12415,28799,65535,131071]
theorem numnahref07_Divides.tab7:rtab .any (opsOf Try.f55 7) = numnahref07_Divides.T7:=by kernel_rfl
theorem numnahref07_Divides.bits7:waitsOk numnahref07_Divides.T7.2 numnahref07_Divides.B7 = true:=by kernel_rfl
theorem numnahref07_Divides.calls (k:Nat) (A0:Option Addr) (c0:Nat) (l0:List Int) (a1:Int) (A2:Option Addr) (c2:Nat) (l2:List (S23)) (r:Bool) (w:World) (m8:Kd.C (Kd.int .i64) w A0 l0.length l0) (m9:l0.length ≤ c0) (n0:Kd.C k23 w A2 l2.length l2) (n1:l2.length ≤ c2) (h:numnahref07_Divides.f k l0 a1 l2 = some r) :
  Calls Try.prog 55 #[.slice A0 l0.length c0,.int .i64 a1,.slice A2 l2.length c2] w fun e w'=>e = .returned (.bool r) ∧ Below w.heap.size w w':=by
 have o2:=Try.underlying23
 have n2:=A_ m8
 have o8:=A_ m9
 clear m8 m9
 have i8:=A_ n0
 have o9:=A_ n1
 clear n0 n1
 have HB:=A_ (Below.refl w.heap.size w)
 have H:(if (l2.length:Int) = (l0.length:Int) then ((numnahref07_Whole.f 0).bind fun e3=>(numnahref07_Divides.l0 k l0 a1 l2 0 e3.1 e3.2)) else (some false)) = some r:=h
 clear h
 by_cases c4:(l2.length:Int) = (l0.length:Int)
 case neg =>
  rw [if_neg c4] at H
  have l8:((l2.length:Int) == (l0.length:Int)) = false:=beq_eq_false_iff_ne.mpr c4
  have l9:((l2.length:Int) != (l0.length:Int)) = true:=bne_iff_ne.mpr c4
  have m0:(l2.length == l0.length) = false:=by first | simpa using c4 | (simp at c4 ⊢;omega)
  obtain rfl:=Option.some.inj H
  go_enter Try.func55,Try.ntmps55
  go_wp2
  go_ret
  exact ⟨by first | rfl | (simp [errW_none,errW_some] <;> rfl) | (simp [*,errW_none,errW_some] <;> rfl),bl HB⟩
 rw [if_pos c4] at H
 have l8:((l2.length:Int) == (l0.length:Int)) = true:=beq_iff_eq.mpr c4
 have l9:((l2.length:Int) != (l0.length:Int)) = false:=bne_eq_false_iff_eq.mpr c4
 have m0:(l2.length == l0.length) = true:=by first | simpa using c4 | (simp at c4 ⊢;omega)
 clear c4
 replace H:=Option.bind_eq_some_iff.mp H
 obtain ⟨⟨h8,i4⟩,A50,H⟩:=H
 dsimp only at H
 have A5:=A_ A50
 clear A50
 have H':=A_ H
 clear H
 go_enter Try.func55,Try.ntmps55
 go_wp2_with (first | ((with_reducible refine gate_callee (f:=23) rfl ?_);refine gL (some 14) Try.func23 #[.int .i64 0] ?_;(with_reducible refine (numnahref07_Whole.calls 0 h8 i4 _ A5.out).mono ?_);rintro e w6 ⟨rfl,hb⟩;refine ⟨_,rfl,?_⟩;replace HB:=bB HB hb;(try clear hb)) | ((with_reducible refine gate_dst (N:=7) rfl ?_);refine bx 7 #[.int .i64 0,.int .i64 0] 23 ?_;intro d4 hg w7 hbox hb;have b0:=A_ hbox;have i6:=gw hg HB;have m1:=i6;replace HB:=bB HB hb;clear hb hbox hg;have m2:w7.cell? ⟨d4,0,none⟩ = some (.int .i64 0):=cz b0 0;have m3:w7.cell? ⟨d4,1,none⟩ = some (.int .i64 0):=cz b0 1;have m4:=blk_frozen b0.out 0;have m5:=blk_frozen b0.out 1))
 go_loopg [8] k (fun kq v8 w'=>∃ (b1:Int) (c1:Int) (b9:Int),v8 = .int .i64 b1 ∧ Aside0 (numnahref07_Divides.l0 kq l0 a1 l2 b1 c1 b9 = some r) ∧ Aside0 (kq ≤ k) ∧ Aside0 (w'.heap[d4]? = some (.cells #[.int .i64 c1,.int .i64 b9] 23 (0,0))) ∧ Aside0 (Below w.heap.size w w'))
 case atStart=>exact ⟨(0),(h8),(i4),(by first | rfl | (simp;done) | (simp [*];done)),H',⟨Nat.le_refl _⟩,⟨by (with_reducible repeat (first | refine blk_drewN ?_ _ | refine blk_drew ?_ | refine blk_alloc ?_ _));refine blk_put (cs:=#[.int .i64 h8,.int .i64 0]) ?_ 1 _ rfl;(with_reducible repeat (first | refine blk_drewN ?_ _ | refine blk_drew ?_ | refine blk_alloc ?_ _));refine blk_put (cs:=#[.int .i64 0,.int .i64 0]) ?_ 0 _ rfl;(with_reducible repeat (first | refine blk_drewN ?_ _ | refine blk_drew ?_ | refine blk_alloc ?_ _));exact b0.out⟩,⟨bl HB⟩⟩
 case round =>
  clear H'
  obtain ⟨b1,c1,b9,rfl,HA,n3,b0,HB⟩:=hrel
  cases gk with
  | zero=>exact absurd HA.out (by simp [numnahref07_Divides.l0])
  | succ k1 =>
   have H:=HA.out
   clear HA
   simp only [numnahref07_Divides.l0] at H
   by_cases c9:b1 < (l0.length:Int)
   case neg =>
    rw [if_neg c9] at H
    have m6:=decide_eq_false c9
    clear c9
    replace H:=Option.bind_eq_some_iff.mp H
    obtain ⟨⟨i9,j5⟩,A320,H⟩:=H
    dsimp only at H
    have o3:=A_ A320
    clear A320
    obtain rfl:=Option.some.inj H
    try go_wp2
    replace b0:=kD b0
    replace HB:=bD HB
    refine start_ (n:=5) (S:=fun w'=>w'.cell? ⟨d4,0,none⟩ = some (.int .i64 c1) ∧ w'.cell? ⟨d4,1,none⟩ = some (.int .i64 b9)) (ds:=[]) (ba 5 0) (by kernel_rfl) rfl rfl ⟨cz b0 0,cz b0 1⟩ (fun hHeld=>?_)
    generalize wr.drew = p0 at b0 HB hHeld ⊢
    refine pr 1 46 2 ?_
    refine tr 0 45 3 hHeld ?_
    refine os 2 47 7 (fun K hK=>?_)
    refine gq Try.func23 #[.int .i64 a1] ?_
    with_reducible refine (numnahref07_Whole.calls a1 i9 j5 _ o3.out).mono ?_
    rintro e p1 ⟨rfl,hb⟩
    refine ⟨_,rfl,?_⟩
    replace b0:=kB b0 hb
    replace HB:=bB HB hb
    (try clear hb)
    refine hz hK (fun hHeld=>?_)
    clear hK K
    refine nq 47 ?_
    refine pr 3 48 15 ?_
    refine pr 4 6 31 ?_
    refine done_ (by kernel_rfl) ?_
    try go_wp2
    go_ret
    exact ⟨by first | rfl | (simp [errW_none,errW_some] <;> rfl) | (simp [*,errW_none,errW_some] <;> rfl),bl HB⟩
   rw [if_pos c9] at H
   have m6:=decide_eq_true c9
   clear c9
   replace H:=gd H
   obtain ⟨c10,H⟩:=H
   have n4:=decide_eq_true c10
   clear c10
   replace H:=gd H
   obtain ⟨n5,H⟩:=H
   have n6:=decide_eq_true n5
   clear n5
   replace H:=Option.bind_eq_some_iff.mp H
   obtain ⟨h6,j7,H⟩:=H
   replace H:(if h6 = true then ((numnahref07_Whole.f (rd l0 b1)).bind fun e2=>((numnahref07_Less.f e2.1 e2.2 ((rd_T23 l2 b1).f0) ((rd_T23 l2 b1).f1)).bind fun e8=>(if e8 = true then (some false) else ((numnahref07_Add.f k1 c1 b9 ((rd_T23 l2 b1).f0) ((rd_T23 l2 b1).f1)).bind fun d5=>(numnahref07_Divides.l0 k1 l0 a1 l2 (wrap64 (b1 + 1)) d5.1 d5.2))))) else (some false)) = some r:=H
   have m7:=A_ j7
   clear j7
   by_cases l5:h6 = true
   case neg =>
    replace l5:=Bool.eq_false_iff.mpr l5
    subst l5
    rw [if_neg (show ¬ (false = true) by decide)] at H
    obtain rfl:=Option.some.inj H
    try go_wp2
    replace b0:=kD b0
    replace HB:=bD HB
    have d6:0 ≤ (b1:Int):=of_decide_eq_true (by first | (with_reducible assumption) | assumption)
    have d7:b1 < (l2.length:Int):=of_decide_eq_true (by first | (with_reducible assumption) | assumption)
    obtain ⟨d0,h3,b4,b5⟩:=at_T23 i8.out b1 d6 d7
    have b2:=b5
    have b3:=b4
    cases h3
    replace b4:=(HB.out.cell (World.block_lt_of_cell? w _ b4)).trans b4
    replace b5:=(HB.out.cell (World.block_lt_of_cell? w _ b5)).trans b5
    replace d6:=eq_true d6
    replace d7:=eq_true d7
    refine start_ (n:=18) (S:=fun w'=>w'.cell? (d0.add ((b1).toNat * 2)) = some (.int .i64 ((rd_T23 l2 b1).f0)) ∧ w'.cell? ⟨(d0.add ((b1).toNat * 2)).block,(d0.add ((b1).toNat * 2)).off + 1,none⟩ = some (.int .i64 ((rd_T23 l2 b1).f1))) (ds:=[]) (ba 18 0) (by kernel_rfl) rfl rfl ⟨((HB.out.cell (World.block_lt_of_cell? w _ b3)).trans b3),((HB.out.cell (World.block_lt_of_cell? w _ b2)).trans b2)⟩ (fun hHeld=>?_);refine with_tabW numnahref07_Divides.tab7 numnahref07_Divides.bits7 (fun HT_ HW_=>?_)
    generalize wr.drew = p2 at b0 HB b4 b5 hHeld ⊢
    refine pq 0 21 1 HT_ ?_
    refine pq 1 22 3 HT_ ?_
    refine pq 2 23 7 HT_ ?_
    refine tq 3 24 15 HT_ HW_ hHeld ?_
    refine oq 4 25 31 HT_ (fun K hK=>?_)
    refine gq Try.func69 #[.agg #[.int .i64 ((rd_T23 l2 b1).f0),.int .i64 ((rd_T23 l2 b1).f1)],.int .i64 0,.int .i64 20000,.int .i64 20] ?_
    with_reducible refine (numnahref07_Within.calls k1 ((rd_T23 l2 b1).f0) ((rd_T23 l2 b1).f1) 0 20000 20 false _ m7.out).mono ?_
    rintro e p3 ⟨rfl,hb⟩
    refine ⟨_,rfl,?_⟩
    replace b0:=kB b0 hb
    replace HB:=bB HB hb
    (try clear hb)
    refine hK.out _ _ ⟨((HB.out.cell (World.block_lt_of_cell? w _ b3)).trans b3),((HB.out.cell (World.block_lt_of_cell? w _ b2)).trans b2)⟩ (fun hHeld=>?_)
    clear hK K
    refine nq 25 ?_
    refine pq 5 26 63 HT_ ?_
    refine pq 6 27 127 HT_ ?_
    refine pu 7 28 255 HT_ ?_
    refine pu 8 29 511 HT_ ?_
    refine pu 9 30 1023 HT_ ?_
    refine pu 10 31 2047 HT_ ?_
    refine pu 11 32 4095 HT_ ?_
    refine pu 12 33 8191 HT_ ?_
    refine pu 13 34 16383 HT_ ?_
    refine pu 14 35 32767 HT_ ?_
    refine pu 15 36 65535 HT_ ?_
    refine pu 16 37 131071 HT_ ?_
    refine pq 17 38 262143 HT_ ?_
    refine done_ (done_of HT_.out (by kernel_rfl)) ?_
    try go_wp2
    go_ret
    exact ⟨by first | rfl | (simp [errW_none,errW_some] <;> rfl) | (simp [*,errW_none,errW_some] <;> rfl),bl HB⟩
   subst l5
   rw [if_pos rfl] at H
   replace H:=Option.bind_eq_some_iff.mp H
   obtain ⟨⟨e9,h0⟩,A140,H⟩:=H
   dsimp only at H
   have n7:=A_ A140
   clear A140
   replace H:=Option.bind_eq_some_iff.mp H
   obtain ⟨e8,j8,H⟩:=H
   replace H:(if e8 = true then (some false) else ((numnahref07_Add.f k1 c1 b9 ((rd_T23 l2 b1).f0) ((rd_T23 l2 b1).f1)).bind fun d5=>(numnahref07_Divides.l0 k1 l0 a1 l2 (wrap64 (b1 + 1)) d5.1 d5.2))) = some r:=H
   have n8:=A_ j8
   clear j8
   by_cases l6:e8 = true
   ·subst l6
    rw [if_pos rfl] at H
    obtain rfl:=Option.some.inj H
    try go_wp2
    replace b0:=kD b0
    replace HB:=bD HB
    have d6:0 ≤ (b1:Int):=of_decide_eq_true (by first | (with_reducible assumption) | assumption)
    have d7:b1 < (l2.length:Int):=of_decide_eq_true (by first | (with_reducible assumption) | assumption)
    obtain ⟨d0,h3,b4,b5⟩:=at_T23 i8.out b1 d6 d7
    have b2:=b5
    have b3:=b4
    cases h3
    replace b4:=(HB.out.cell (World.block_lt_of_cell? w _ b4)).trans b4
    replace b5:=(HB.out.cell (World.block_lt_of_cell? w _ b5)).trans b5
    replace d6:=eq_true d6
    replace d7:=eq_true d7
    have e4:0 ≤ (b1:Int):=of_decide_eq_true (by first | (with_reducible assumption) | assumption)
    have e5:b1 < (l0.length:Int):=of_decide_eq_true (by first | (with_reducible assumption) | assumption)
    obtain ⟨h4,h9,d1⟩:=Kd.at_int n2.out b1 e4 e5
    have b6:=d1
    cases h9
    replace d1:=(HB.out.cell (World.block_lt_of_cell? w _ d1)).trans d1
    replace e4:=eq_true e4
    replace e5:=eq_true e5
    have e6:0 ≤ (b1:Int):=of_decide_eq_true (by first | (with_reducible assumption) | assumption)
    have e7:b1 < (l2.length:Int):=of_decide_eq_true (by first | (with_reducible assumption) | assumption)
    obtain ⟨h5,i0,d2,d3⟩:=at_T23 i8.out b1 e6 e7
    have b7:=d3
    have b8:=d2
    obtain rfl:d0 = h5:=(by injection i0)
    replace d2:=(HB.out.cell (World.block_lt_of_cell? w _ d2)).trans d2
    replace d3:=(HB.out.cell (World.block_lt_of_cell? w _ d3)).trans d3
    replace e6:=eq_true e6
    replace e7:=eq_true e7
    refine start_ (n:=18) (S:=fun w'=>w'.cell? (d0.add ((b1).toNat * 2)) = some (.int .i64 ((rd_T23 l2 b1).f0)) ∧ w'.cell? ⟨(d0.add ((b1).toNat * 2)).block,(d0.add ((b1).toNat * 2)).off + 1,none⟩ = some (.int .i64 ((rd_T23 l2 b1).f1)) ∧ w'.cell? (h4.add (b1).toNat) = some (.int .i64 (rd l0 b1)) ∧ w'.cell? (d0.add ((b1).toNat * 2)) = some (.int .i64 ((rd_T23 l2 b1).f0)) ∧ w'.cell? ⟨(d0.add ((b1).toNat * 2)).block,(d0.add ((b1).toNat * 2)).off + 1,none⟩ = some (.int .i64 ((rd_T23 l2 b1).f1))) (ds:=[]) (ba 18 0) (by kernel_rfl) rfl rfl ⟨((HB.out.cell (World.block_lt_of_cell? w _ b3)).trans b3),((HB.out.cell (World.block_lt_of_cell? w _ b2)).trans b2),((HB.out.cell (World.block_lt_of_cell? w _ b6)).trans b6),((HB.out.cell (World.block_lt_of_cell? w _ b8)).trans b8),((HB.out.cell (World.block_lt_of_cell? w _ b7)).trans b7)⟩ (fun hHeld=>?_);refine with_tabW numnahref07_Divides.tab7 numnahref07_Divides.bits7 (fun HT_ HW_=>?_)
    generalize wr.drew = p4 at b0 HB b4 b5 d1 d2 d3 hHeld ⊢
    refine pq 0 21 1 HT_ ?_
    refine pq 1 22 3 HT_ ?_
    refine pq 2 23 7 HT_ ?_
    refine tq 3 24 15 HT_ HW_ hHeld ?_
    refine oq 4 25 31 HT_ (fun K hK=>?_)
    refine gq Try.func69 #[.agg #[.int .i64 ((rd_T23 l2 b1).f0),.int .i64 ((rd_T23 l2 b1).f1)],.int .i64 0,.int .i64 20000,.int .i64 20] ?_
    with_reducible refine (numnahref07_Within.calls k1 ((rd_T23 l2 b1).f0) ((rd_T23 l2 b1).f1) 0 20000 20 true _ m7.out).mono ?_
    rintro e p5 ⟨rfl,hb⟩
    refine ⟨_,rfl,?_⟩
    replace b0:=kB b0 hb
    replace HB:=bB HB hb
    (try clear hb)
    refine hK.out _ _ ⟨((HB.out.cell (World.block_lt_of_cell? w _ b3)).trans b3),((HB.out.cell (World.block_lt_of_cell? w _ b2)).trans b2),((HB.out.cell (World.block_lt_of_cell? w _ b6)).trans b6),((HB.out.cell (World.block_lt_of_cell? w _ b8)).trans b8),((HB.out.cell (World.block_lt_of_cell? w _ b7)).trans b7)⟩ (fun hHeld=>?_)
    clear hK K
    refine nq 25 ?_
    refine pq 5 26 63 HT_ ?_
    refine pq 6 27 127 HT_ ?_
    refine pq 7 28 255 HT_ ?_
    refine pq 8 29 511 HT_ ?_
    refine pq 9 30 1023 HT_ ?_
    refine pq 12 33 5119 HT_ ?_
    refine pq 13 34 13311 HT_ ?_
    refine pq 14 35 29695 HT_ ?_
    refine tq 10 31 30719 HT_ HW_ hHeld ?_
    refine tq 15 36 63487 HT_ HW_ hHeld ?_
    refine oq 11 32 65535 HT_ (fun K hK=>?_)
    refine gq Try.func23 #[.int .i64 (rd l0 b1)] ?_
    with_reducible refine (numnahref07_Whole.calls (rd l0 b1) e9 h0 _ n7.out).mono ?_
    rintro e p6 ⟨rfl,hb⟩
    refine ⟨_,rfl,?_⟩
    replace b0:=kB b0 hb
    replace HB:=bB HB hb
    (try clear hb)
    refine hK.out _ _ ⟨((HB.out.cell (World.block_lt_of_cell? w _ b3)).trans b3),((HB.out.cell (World.block_lt_of_cell? w _ b2)).trans b2),((HB.out.cell (World.block_lt_of_cell? w _ b6)).trans b6),((HB.out.cell (World.block_lt_of_cell? w _ b8)).trans b8),((HB.out.cell (World.block_lt_of_cell? w _ b7)).trans b7)⟩ (fun hHeld=>?_)
    clear hK K
    refine nq 32 ?_
    refine oq 16 37 131071 HT_ (fun K hK=>?_)
    refine gq Try.func30 #[.agg #[.int .i64 e9,.int .i64 h0],.agg #[.int .i64 ((rd_T23 l2 b1).f0),.int .i64 ((rd_T23 l2 b1).f1)]] ?_
    with_reducible refine (numnahref07_Less.calls e9 h0 ((rd_T23 l2 b1).f0) ((rd_T23 l2 b1).f1) true _ n8.out).mono ?_
    rintro e p7 ⟨rfl,hb⟩
    refine ⟨_,rfl,?_⟩
    replace b0:=kB b0 hb
    replace HB:=bB HB hb
    (try clear hb)
    refine hK.out _ _ ⟨((HB.out.cell (World.block_lt_of_cell? w _ b3)).trans b3),((HB.out.cell (World.block_lt_of_cell? w _ b2)).trans b2),((HB.out.cell (World.block_lt_of_cell? w _ b6)).trans b6),((HB.out.cell (World.block_lt_of_cell? w _ b8)).trans b8),((HB.out.cell (World.block_lt_of_cell? w _ b7)).trans b7)⟩ (fun hHeld=>?_)
    clear hK K
    refine nq 37 ?_
    refine pq 17 38 262143 HT_ ?_
    refine done_ (done_of HT_.out (by kernel_rfl)) ?_
    try go_wp2
    go_ret
    exact ⟨by first | rfl | (simp [errW_none,errW_some] <;> rfl) | (simp [*,errW_none,errW_some] <;> rfl),bl HB⟩
   replace l6:=Bool.eq_false_iff.mpr l6
   subst l6
   rw [if_neg (show ¬ (false = true) by decide)] at H
   replace H:=Option.bind_eq_some_iff.mp H
   obtain ⟨⟨i1,i5⟩,A210,H⟩:=H
   dsimp only at H
   have o4:=A_ A210
   clear A210
   have H':=A_ H
   clear H
   try go_wp2
   replace b0:=kD b0
   replace HB:=bD HB
   have d6:0 ≤ (b1:Int):=of_decide_eq_true (by first | (with_reducible assumption) | assumption)
   have d7:b1 < (l2.length:Int):=of_decide_eq_true (by first | (with_reducible assumption) | assumption)
   obtain ⟨d0,h3,b4,b5⟩:=at_T23 i8.out b1 d6 d7
   have b2:=b5
   have b3:=b4
   cases h3
   replace b4:=(HB.out.cell (World.block_lt_of_cell? w _ b4)).trans b4
   replace b5:=(HB.out.cell (World.block_lt_of_cell? w _ b5)).trans b5
   replace d6:=eq_true d6
   replace d7:=eq_true d7
   have e4:0 ≤ (b1:Int):=of_decide_eq_true (by first | (with_reducible assumption) | assumption)
   have e5:b1 < (l0.length:Int):=of_decide_eq_true (by first | (with_reducible assumption) | assumption)
   obtain ⟨h4,h9,d1⟩:=Kd.at_int n2.out b1 e4 e5
   have b6:=d1
   cases h9
   replace d1:=(HB.out.cell (World.block_lt_of_cell? w _ d1)).trans d1
   replace e4:=eq_true e4
   replace e5:=eq_true e5
   have e6:0 ≤ (b1:Int):=of_decide_eq_true (by first | (with_reducible assumption) | assumption)
   have e7:b1 < (l2.length:Int):=of_decide_eq_true (by first | (with_reducible assumption) | assumption)
   obtain ⟨h5,i0,d2,d3⟩:=at_T23 i8.out b1 e6 e7
   have b7:=d3
   have b8:=d2
   obtain rfl:d0 = h5:=(by injection i0)
   replace d2:=(HB.out.cell (World.block_lt_of_cell? w _ d2)).trans d2
   replace d3:=(HB.out.cell (World.block_lt_of_cell? w _ d3)).trans d3
   replace e6:=eq_true e6
   replace e7:=eq_true e7
   refine start_ (n:=18) (S:=fun w'=>w'.cell? (d0.add ((b1).toNat * 2)) = some (.int .i64 ((rd_T23 l2 b1).f0)) ∧ w'.cell? ⟨(d0.add ((b1).toNat * 2)).block,(d0.add ((b1).toNat * 2)).off + 1,none⟩ = some (.int .i64 ((rd_T23 l2 b1).f1)) ∧ w'.cell? (h4.add (b1).toNat) = some (.int .i64 (rd l0 b1)) ∧ w'.cell? (d0.add ((b1).toNat * 2)) = some (.int .i64 ((rd_T23 l2 b1).f0)) ∧ w'.cell? ⟨(d0.add ((b1).toNat * 2)).block,(d0.add ((b1).toNat * 2)).off + 1,none⟩ = some (.int .i64 ((rd_T23 l2 b1).f1))) (ds:=[]) (ba 18 0) (by kernel_rfl) rfl rfl ⟨((HB.out.cell (World.block_lt_of_cell? w _ b3)).trans b3),((HB.out.cell (World.block_lt_of_cell? w _ b2)).trans b2),((HB.out.cell (World.block_lt_of_cell? w _ b6)).trans b6),((HB.out.cell (World.block_lt_of_cell? w _ b8)).trans b8),((HB.out.cell (World.block_lt_of_cell? w _ b7)).trans b7)⟩ (fun hHeld=>?_);refine with_tabW numnahref07_Divides.tab7 numnahref07_Divides.bits7 (fun HT_ HW_=>?_)
   generalize wr.drew = p8 at b0 HB b4 b5 d1 d2 d3 hHeld ⊢
   refine pq 0 21 1 HT_ ?_
   refine pq 1 22 3 HT_ ?_
   refine pq 2 23 7 HT_ ?_
   refine tq 3 24 15 HT_ HW_ hHeld ?_
   refine oq 4 25 31 HT_ (fun K hK=>?_)
   refine gq Try.func69 #[.agg #[.int .i64 ((rd_T23 l2 b1).f0),.int .i64 ((rd_T23 l2 b1).f1)],.int .i64 0,.int .i64 20000,.int .i64 20] ?_
   with_reducible refine (numnahref07_Within.calls k1 ((rd_T23 l2 b1).f0) ((rd_T23 l2 b1).f1) 0 20000 20 true _ m7.out).mono ?_
   rintro e p9 ⟨rfl,hb⟩
   refine ⟨_,rfl,?_⟩
   replace b0:=kB b0 hb
   replace HB:=bB HB hb
   (try clear hb)
   refine hK.out _ _ ⟨((HB.out.cell (World.block_lt_of_cell? w _ b3)).trans b3),((HB.out.cell (World.block_lt_of_cell? w _ b2)).trans b2),((HB.out.cell (World.block_lt_of_cell? w _ b6)).trans b6),((HB.out.cell (World.block_lt_of_cell? w _ b8)).trans b8),((HB.out.cell (World.block_lt_of_cell? w _ b7)).trans b7)⟩ (fun hHeld=>?_)
   clear hK K
   refine nq 25 ?_
   refine pq 5 26 63 HT_ ?_
   refine pq 6 27 127 HT_ ?_
   refine pq 7 28 255 HT_ ?_
   refine pq 8 29 511 HT_ ?_
   refine pq 9 30 1023 HT_ ?_
   refine pq 12 33 5119 HT_ ?_
   refine pq 13 34 13311 HT_ ?_
   refine pq 14 35 29695 HT_ ?_
   refine tq 10 31 30719 HT_ HW_ hHeld ?_
   refine tq 15 36 63487 HT_ HW_ hHeld ?_
   refine oq 11 32 65535 HT_ (fun K hK=>?_)
   refine gq Try.func23 #[.int .i64 (rd l0 b1)] ?_
   with_reducible refine (numnahref07_Whole.calls (rd l0 b1) e9 h0 _ n7.out).mono ?_
   rintro e q0 ⟨rfl,hb⟩
   refine ⟨_,rfl,?_⟩
   replace b0:=kB b0 hb
   replace HB:=bB HB hb
   (try clear hb)
   refine hK.out _ _ ⟨((HB.out.cell (World.block_lt_of_cell? w _ b3)).trans b3),((HB.out.cell (World.block_lt_of_cell? w _ b2)).trans b2),((HB.out.cell (World.block_lt_of_cell? w _ b6)).trans b6),((HB.out.cell (World.block_lt_of_cell? w _ b8)).trans b8),((HB.out.cell (World.block_lt_of_cell? w _ b7)).trans b7)⟩ (fun hHeld=>?_)
   clear hK K
   refine nq 32 ?_
   refine oq 16 37 131071 HT_ (fun K hK=>?_)
   refine gq Try.func30 #[.agg #[.int .i64 e9,.int .i64 h0],.agg #[.int .i64 ((rd_T23 l2 b1).f0),.int .i64 ((rd_T23 l2 b1).f1)]] ?_
   with_reducible refine (numnahref07_Less.calls e9 h0 ((rd_T23 l2 b1).f0) ((rd_T23 l2 b1).f1) false _ n8.out).mono ?_
   rintro e o5 ⟨rfl,hb⟩
   refine ⟨_,rfl,?_⟩
   replace b0:=kB b0 hb
   replace HB:=bB HB hb
   (try clear hb)
   refine hK.out _ _ ⟨((HB.out.cell (World.block_lt_of_cell? w _ b3)).trans b3),((HB.out.cell (World.block_lt_of_cell? w _ b2)).trans b2),((HB.out.cell (World.block_lt_of_cell? w _ b6)).trans b6),((HB.out.cell (World.block_lt_of_cell? w _ b8)).trans b8),((HB.out.cell (World.block_lt_of_cell? w _ b7)).trans b7)⟩ (fun hHeld=>?_)
   clear hK K
   refine nq 37 ?_
   refine pq 17 38 262143 HT_ ?_
   refine done_ (done_of HT_.out (by kernel_rfl)) ?_
   try go_wp2
   replace b0:=kD b0
   replace HB:=bD HB
   have i2:0 ≤ (b1:Int):=of_decide_eq_true (by first | (with_reducible assumption) | assumption)
   have i3:b1 < (l2.length:Int):=of_decide_eq_true (by first | (with_reducible assumption) | assumption)
   obtain ⟨i7,j9,d8,d9⟩:=at_T23 i8.out b1 i2 i3
   have e0:=d9
   have e1:=d8
   obtain rfl:d0 = i7:=(by injection j9)
   replace d8:=(HB.out.cell (World.block_lt_of_cell? w _ d8)).trans d8
   replace d9:=(HB.out.cell (World.block_lt_of_cell? w _ d9)).trans d9
   replace i2:=eq_true i2
   replace i3:=eq_true i3
   refine start_ (n:=7) (S:=fun w'=>w'.cell? ⟨d4,0,none⟩ = some (.int .i64 c1) ∧ w'.cell? ⟨d4,1,none⟩ = some (.int .i64 b9) ∧ w'.cell? (d0.add ((b1).toNat * 2)) = some (.int .i64 ((rd_T23 l2 b1).f0)) ∧ w'.cell? ⟨(d0.add ((b1).toNat * 2)).block,(d0.add ((b1).toNat * 2)).off + 1,none⟩ = some (.int .i64 ((rd_T23 l2 b1).f1))) (ds:=[6]) (ba 7 0) (by kernel_rfl) rfl rfl ⟨cz b0 0,cz b0 1,((HB.out.cell (World.block_lt_of_cell? w _ e1)).trans e1),((HB.out.cell (World.block_lt_of_cell? w _ e0)).trans e0)⟩ (fun hHeld=>?_)
   generalize o5.drew = q1 at b0 HB d8 d9 hHeld ⊢
   refine pr 1 40 2 ?_
   refine pr 2 41 6 ?_
   refine pr 3 42 14 ?_
   refine tr 0 39 15 hHeld ?_
   refine tr 4 43 31 hHeld ?_
   refine os 5 44 63 (fun K hK=>?_)
   refine gq Try.func28 #[.agg #[.int .i64 c1,.int .i64 b9],.agg #[.int .i64 ((rd_T23 l2 b1).f0),.int .i64 ((rd_T23 l2 b1).f1)]] ?_
   with_reducible refine (numnahref07_Add.calls k1 c1 b9 ((rd_T23 l2 b1).f0) ((rd_T23 l2 b1).f1) i1 i5 _ o4.out).mono ?_
   rintro e n9 ⟨rfl,hb⟩
   refine ⟨_,rfl,?_⟩
   replace b0:=kB b0 hb
   replace HB:=bB HB hb
   (try clear hb)
   refine hK.out _ _ ⟨cz b0 0,cz b0 1,((HB.out.cell (World.block_lt_of_cell? w _ e1)).trans e1),((HB.out.cell (World.block_lt_of_cell? w _ e0)).trans e0)⟩ (fun hHeld=>?_)
   clear hK K
   refine nq 44 ?_
   refine last_ (i:=6) (N:=none) (ba 7 127) rfl rfl (by kernel_rfl) (by decide) (fun K hK=>?_)
   have o6:n9.cell? ⟨d4,0,none⟩ = some (.int .i64 c1):=cz b0 0
   have o0:=blk_frozen b0.out 0
   have o7:n9.cell? ⟨d4,1,none⟩ = some (.int .i64 b9):=cz b0 1
   have o1:=blk_frozen b0.out 1
   refine skip_ (w1:=?_) (by rfl) rfl ?_ ?_
   rotate_left
   ·go_simp
    rfl
   refine hK.out _ _ ?_
   clear hK K
   refine done_ (by kernel_rfl) ?_
   try go_wp2
   go_roundg k1
   case measure=>have:=n3.out;omega
   case rel=>exact ⟨(wrap64 (b1 + 1)),(i1),(i5),(by first | rfl | (simp;done) | (simp [*];done)),H',⟨by have:=n3.out;omega⟩,⟨by (with_reducible repeat (first | refine blk_drewN ?_ _ | refine blk_drew ?_ | refine blk_alloc ?_ _));refine blk_put (cs:=#[.int .i64 i1,.int .i64 b9]) ?_ 1 _ rfl;(with_reducible repeat (first | refine blk_drewN ?_ _ | refine blk_drew ?_ | refine blk_alloc ?_ _));refine blk_put (cs:=#[.int .i64 c1,.int .i64 b9]) ?_ 0 _ rfl;(with_reducible repeat (first | refine blk_drewN ?_ _ | refine blk_drew ?_ | refine blk_alloc ?_ _));exact b0.out⟩,⟨bl HB⟩⟩
end Go.Proofs.Ytjohcjfmlhihbaa.G
set_option linter.unusedSectionVars false
namespace Go.Proofs.Ytjohcjfmlhihbaa.P
open Go Go.RowKit Go.Proofs.Ytjohcjfmlhihbaa.G
open Go.Proofs.YtjohcjfmlhihbaaW.PrintWords Go.Proofs.YtjohcjfmlhihbaaW.PrintMore
def inS (w:S23):Prop:=(-9223372036854775808 ≤ w.f0 ∧ w.f0 ≤ 9223372036854775807) ∧ (-9223372036854775808 ≤ w.f1 ∧ w.f1 ≤ 9223372036854775807)
theorem gcd_neg {a:Int} (ha:a < 0) {d:Nat} (hd:0 < d):Ev (fun k=>shares_gcd.f k a (d:Int)) (d:Int):=by
 refine ⟨2,fun k hk=>?_⟩
 obtain ⟨m,rfl⟩:∃ m,k = m + 1 + 1:=⟨k - 2,by omega⟩
 have h0:Int.tmod a (d:Int) ≤ 0:=by
  have:Int.tmod a (d:Int) = -(Int.tmod (-a) (d:Int)):=by rw [Int.neg_tmod,Int.neg_neg]
  rw [this]
  have:=Int.tmod_nonneg (d:Int) (show 0 ≤ -a by omega)
  omega
 show shares_gcd.l0 (m + 1 + 1) a (d:Int) = _
 rw [shares_gcd.l0,if_pos (by omega),if_neg (by omega),shares_gcd.l0,if_neg (by omega)]
theorem ev_valid {n d:Int} (hn:-9223372036854775808 ≤ n ∧ n ≤ 9223372036854775807) (hd:1 ≤ d):∃ b,Ev (fun k=>shares_isValid.f k n d) b ∧ (0 ≤ n → b = decide (Nat.gcd n.natAbs d.toNat = 1)) ∧ (n ≠ -9223372036854775808 → b = decide (Nat.gcd n.natAbs d.toNat = 1)):=by
 obtain ⟨e,rfl⟩:∃ e:Nat,d = (e:Int):=⟨d.toNat,by omega⟩
 unfold shares_isValid.f
 rw [Int.toNat_natCast]
 by_cases h:n = -9223372036854775808
 ·subst h
  have hm:mx (-9223372036854775808) (wrap64 (- -9223372036854775808)) = -9223372036854775808:=by
   have:wrap64 (- -9223372036854775808) = -9223372036854775808:=by unfold wrap64;omega
   rw [this];unfold mx;simp
  refine ⟨((e:Int) == 1),?_,fun h0=>by omega,fun h0=>absurd rfl h0⟩
  refine Ev.congr (fun k=>if_pos (by omega)) ?_
  rw [hm]
  exact Ev.bind (gcd_neg (by omega) (by omega)) (Ev.now _)
 ·refine ⟨decide (Nat.gcd n.natAbs e = 1),?_,fun _=>rfl,fun _=>rfl⟩
  refine Ev.congr (fun k=>if_pos (by omega)) ?_
  rw [mx_abs (by omega)]
  refine Ev.bind (ev_gcd n.natAbs e) ?_
  have:(((Nat.gcd n.natAbs e:Nat):Int) == 1) = decide (Nat.gcd n.natAbs e = 1):=by
   rw [Bool.eq_iff_iff,beq_iff_eq,decide_eq_true_iff];omega
  rw [this]
  exact Ev.now _
theorem within_eq (n lo hi:Int):shares_within.f n lo hi = some (decide (lo ≤ n ∧ n ≤ hi)):=by
 unfold shares_within.f
 by_cases h:n ≥ lo
 ·rw [if_pos h]
  congr 1
  rw [Bool.eq_iff_iff,decide_eq_true_iff,decide_eq_true_iff]
  exact ⟨fun k=>⟨h,k⟩,fun k=>k.2⟩
 ·rw [if_neg h,decide_eq_false (fun k=>h k.1)]
theorem ev_within_any {a:S23} (ha:inS a) {lo hi d:Int} (hlo:-9223372036854775808 < lo):Ev (fun k=>numnahref07_Within.f k a.f0 a.f1 lo hi d) (decide (1 ≤ a.f1 ∧ a.f1 ≤ d ∧ lo ≤ a.f0 ∧ a.f0 ≤ hi ∧ Nat.gcd a.f0.natAbs a.f1.toNat = 1)):=by
 unfold numnahref07_Within.f
 by_cases b1:a.f1 ≥ 1
 ·refine Ev.congr (fun k=>if_pos b1) ?_
  by_cases b2:a.f1 ≤ d
  ·refine Ev.congr (fun k=>if_pos b2) ?_
   by_cases b3:a.f0 ≥ lo
   ·refine Ev.congr (fun k=>if_pos b3) ?_
    by_cases b4:a.f0 ≤ hi
    ·refine Ev.congr (fun k=>if_pos b4) ?_
     have h64:=ha.1
     rw [mx_abs (by omega)]
     obtain ⟨e,he⟩:∃ e:Nat,a.f1 = (e:Int):=⟨a.f1.toNat,by omega⟩
     simp only [ref_gcd,he,Int.toNat_natCast]
     refine Ev.bind (ev_gcd a.f0.natAbs e) ?_
     have:(((Nat.gcd a.f0.natAbs e:Nat):Int) == 1) = decide (1 ≤ (e:Int) ∧ (e:Int) ≤ d ∧ lo ≤ a.f0 ∧ a.f0 ≤ hi ∧ Nat.gcd a.f0.natAbs e = 1):=by
      rw [Bool.eq_iff_iff,beq_iff_eq,decide_eq_true_iff]
      constructor
      ·intro hg;exact ⟨by omega,by omega,b3,b4,by omega⟩
      ·intro hg;omega
     rw [this]
     exact Ev.now _
    ·rw [decide_eq_false (fun k=>b4 k.2.2.2.1)]
     exact Ev.congr (fun k=>if_neg b4) (Ev.now _)
   ·rw [decide_eq_false (fun k=>b3 k.2.2.1)]
    exact Ev.congr (fun k=>if_neg b3) (Ev.now _)
  ·rw [decide_eq_false (fun k=>b2 k.2.1)]
   exact Ev.congr (fun k=>if_neg b2) (Ev.now _)
 ·rw [decide_eq_false (fun k=>b1 k.1)]
  exact Ev.congr (fun k=>if_neg b1) (Ev.now _)
def okW (c:Int) (w:S23):Prop:=1 ≤ w.f1 ∧ w.f1 ≤ 20 ∧ Nat.gcd w.f0.natAbs w.f1.toNat = 1 ∧ 0 ≤ w.f0 ∧ w.f0 ≤ c * w.f1
instance (c:Int) (w:S23):Decidable (okW c w):=by unfold okW;exact inferInstance
theorem okW_q {c:Int} {w:S23} (h:okW c w):∃ q:Rat,w = encQ q ∧ 0 ≤ q ∧ q ≤ (c:Rat) ∧ q.den ≤ 20:=by
 obtain ⟨h1,h2,h3,h4,h5⟩:=h
 obtain ⟨q,q1,q2⟩:=is_valid (n:=w.f0) (d:=w.f1.toNat) (by omega) h3
 refine ⟨q,S23_ext q1.symm (by show w.f1 = (q.den:Int);omega),Rat.num_nonneg.1 (by omega),?_,by omega⟩
 rw [Rat.le_iff,whole_num,whole_den,q1,q2]
 have:((w.f1.toNat:Nat):Int) = w.f1:=by omega
 rw [this];simpa using h5
theorem q_okW {c:Int} {q:Rat} (h0:0 ≤ q) (h1:q ≤ (c:Rat)) (hd:q.den ≤ 20):okW c (encQ q):=by
 have hp:=den_pos q
 refine ⟨?_,?_,?_,Rat.num_nonneg.2 h0,?_⟩
 ·show 1 ≤ (q.den:Int);omega
 ·show (q.den:Int) ≤ 20;omega
 ·exact gcd_one q
 ·rw [Rat.le_iff,whole_num,whole_den] at h1
  have h2:q.num ≤ c * (q.den:Int):=by simpa using h1
  exact h2
structure IsDiv (l:List Int) (E:Int) (x:List Rat):Prop where
 len:x.length = l.length
 ok:∀ i (h1:i < x.length) (h2:i < l.length),0 ≤ x[i] ∧ x[i] ≤ (l[i]:Rat) ∧ x[i].den ≤ 20
 sum:tot x = (E:Rat)
def lcm20:Nat:=232792560
theorem dvd_lcm {d:Nat} (h0:1 ≤ d) (h:d ≤ 20):d ∣ lcm20:=by
 have:∀ d:Fin 20,(d.val + 1) ∣ lcm20:=by decide
 have:=this ⟨d - 1,by omega⟩
 rwa [show d - 1 + 1 = d by omega] at this
section
variable {l:List Int} (h:IsCl l)
theorem part_sm {x:List Rat} (hl:x.length ≤ 11) (hx:∀ q ∈ x,0 ≤ q ∧ q ≤ ((1000:Nat):Rat) ∧ q.den ≤ 20):Sm 2560718160000 232792560 (tot x):=by
 have h0:0 ≤ tot x:=tot_nonneg fun q hq=>(hx q hq).1
 have hd:(tot x).den ≤ lcm20:=Nat.le_of_dvd (by decide) (tot_den (by decide) fun q hq=>dvd_lcm (den_pos q) (hx q hq).2.2)
 have h1:tot x ≤ ((11000:Nat):Rat):=by
  have a1:=tot_le (f:=fun c=>c) (g:=fun _=>((1000:Nat):Rat)) (l:=x) (fun c hc=>(hx c hc).2.1)
  rw [List.map_id',tot_const] at a1
  have a2:((x.length * 1000:Nat):Rat) ≤ ((11000:Nat):Rat):=Rat.natCast_le_natCast.2 (by omega)
  push_cast at a1 a2 ⊢
  exact Rat.le_trans a1 a2
 exact ⟨Nat.le_trans (num_abs h0 h1 hd) (by decide),hd⟩
theorem q_sm {q:Rat} (hq:0 ≤ q ∧ q ≤ ((1000:Nat):Rat) ∧ q.den ≤ 20):Sm 20000 20 q:=⟨Nat.le_trans (num_abs hq.1 hq.2.1 hq.2.2) (by decide),hq.2.2⟩
theorem sum_l0 {x:List Rat} (hl:x.length ≤ 11) (hx:∀ q ∈ x,0 ≤ q ∧ q ≤ ((1000:Nat):Rat) ∧ q.den ≤ 20):∀ (d i:Nat),i + d = x.length → Ev (fun k=>shares_sum.l0 k (encL x) (x.length:Int) (i:Int) (tot (x.take i)).num ((tot (x.take i)).den:Int)) ((tot x).num,((tot x).den:Int)):=by
 intro d
 induction d with
 | zero =>
  intro i hi
  refine Ev.step (f:=fun _=>some ((tot x).num,((tot x).den:Int))) (fun k=>?_) (Ev.now _)
  rw [shares_sum.l0,if_neg (by omega),List.take_of_length_le (by omega)]
 | succ d ih =>
  intro i hi
  have hil:i < x.length:=by omega
  have s1:=part_sm (x:=x.take i) (by rw [List.length_take];omega) (fun q hq=>hx q (List.mem_of_mem_take hq))
  have s2:=q_sm (hx _ (List.getElem_mem hil))
  have e:tot (x.take i) + x[i] = tot (x.take (i + 1)):=by rw [List.take_succ_eq_append_getElem hil,tot_append,tot_cons,tot_nil];grind
  have e1:=ev_add (s1.fits s2 (by decide) (by decide))
  rw [e] at e1
  obtain ⟨K1,e1⟩:=e1
  obtain ⟨K2,e2⟩:=ih (i + 1) (by omega)
  refine ⟨K1 + K2 + 1,fun k hk=>?_⟩
  obtain ⟨m,rfl⟩:∃ m,k = m + 1:=⟨k - 1,by omega⟩
  have f1:=e1 m (by omega)
  have f2:=e2 m (by omega)
  show shares_sum.l0 (m + 1) _ _ _ _ _ = _
  rw [shares_sum.l0,encL_length,if_pos (by omega),if_pos (by omega),if_pos (by omega),rdE hil]
  simp only [encQ,f1,Option.bind_some]
  rw [wrap_succ (by omega)]
  exact f2
theorem ev_sum {x:List Rat} (hl:x.length ≤ 11) (hx:∀ q ∈ x,0 ≤ q ∧ q ≤ ((1000:Nat):Rat) ∧ q.den ≤ 20):Ev (fun k=>shares_sum.f k (encL x)) ((tot x).num,((tot x).den:Int)):=by
 unfold shares_sum.f
 simp only [shares_whole.f,Option.bind_some,encL_length]
 exact sum_l0 hl hx x.length 0 (by omega)
theorem all_x {w:List S23} (hw:w.length = l.length) (hok:∀ i (h1:i < w.length) (h2:i < l.length),okW l[i] w[i]):∃ x,w = encL x ∧ x.length = l.length ∧ ∀ i (h1:i < x.length) (h2:i < l.length),0 ≤ x[i] ∧ x[i] ≤ (l[i]:Rat) ∧ x[i].den ≤ 20:=by
 induction w generalizing l with
 | nil=>exact ⟨[],rfl,hw,fun i h1=>by simp at h1⟩
 | cons a w ih =>
  match l,hw with
  | c :: l,hw =>
   obtain ⟨x,rfl,hx1,hx2⟩:=ih (l:=l) (by simpa using hw) (fun i h1 h2=>by
    have:=hok (i + 1) (by simpa using h1) (by simpa using h2)
    simpa using this)
   obtain ⟨q,rfl,hq⟩:=okW_q (hok 0 (by simp) (by simp))
   refine ⟨q :: x,rfl,by simp [hx1],fun i h1 h2=>?_⟩
   rcases i with _ | i
   ·simpa using hq
   ·simpa using hx2 i (by simpa using h1) (by simpa using h2)
include h
theorem x_small {x:List Rat} (hx1:x.length = l.length) (hx2:∀ i (h1:i < x.length) (h2:i < l.length),0 ≤ x[i] ∧ x[i] ≤ (l[i]:Rat) ∧ x[i].den ≤ 20):∀ q ∈ x,0 ≤ q ∧ q ≤ ((1000:Nat):Rat) ∧ q.den ≤ 20:=by
 intro q hq
 obtain ⟨i,hi,rfl⟩:=List.mem_iff_getElem.1 hq
 obtain ⟨a,b,c⟩:=hx2 i hi (by omega)
 exact ⟨a,Rat.le_trans b (okC_int (h.mem _ (List.getElem_mem (by omega:i < l.length)))).hi,c⟩
theorem isAward_l0 {w:List S23} (hw:w.length = l.length) (hin:∀ a ∈ w,inS a) (E:Int):∀ (d i:Nat),i + d = w.length → (∀ j (h1:j < w.length) (h2:j < l.length),j < i → okW l[j] w[j]) →
  ∃ b:Bool,(b = true ↔ ∃ x,w = encL x ∧ IsDiv l E x) ∧ Ev (fun k=>shares_claims_isAward.l0 k w w (w.length:Int) (i:Int) l E) b:=by
 have hl:=h.ten
 intro d
 induction d with
 | zero =>
  intro i hi hok
  obtain ⟨x,rfl,hx1,hx2⟩:=all_x hw (fun i h1 h2=>hok i h1 h2 (by omega))
  have hxs:=x_small h hx1 hx2
  have hs:=ev_sum (x:=x) (by omega) hxs
  refine ⟨decide (tot x = (E:Rat)),?_,?_⟩
  ·rw [decide_eq_true_iff]
   exact ⟨fun ht=>⟨x,rfl,hx1,hx2,ht⟩,fun ⟨y,hy,hd⟩=>by rw [encL_inj hy];exact hd.sum⟩
  ·refine Ev.step (f:=fun k=>(shares_sum.f k (encL x)).bind fun bt=>(shares_whole.f E).bind fun bt2=>some (bt.1 == bt2.1 && (bt.2 == bt2.2))) (fun k=>?_) (Ev.bind hs ?_)
   ·rw [shares_claims_isAward.l0,if_neg (by omega)]
   ·simp only [shares_whole.f,Option.bind_some]
    have:((tot x).num == E && (((tot x).den:Int) == 1)) = decide (tot x = (E:Rat)):=by
     rw [Bool.eq_iff_iff,Bool.and_eq_true,beq_iff_eq,beq_iff_eq,decide_eq_true_iff]
     constructor
     ·rintro ⟨a,b⟩
      exact Rat.ext (by rw [whole_num];exact a) (by rw [whole_den];omega)
     ·intro e
      rw [e,whole_num,whole_den];exact ⟨rfl,rfl⟩
    rw [this]
    exact Ev.now _
 | succ d ih =>
  intro i hi hok
  have hil:i < w.length:=by omega
  have hil2:i < l.length:=by omega
  have hmi:=h.mem _ (List.getElem_mem hil2)
  have hi64:=hin _ (List.getElem_mem hil)
  have no:¬ okW l[i] w[i] → ¬ ∃ x,w = encL x ∧ IsDiv l E x:=fun hno ⟨x,hx,hd⟩=>by
   apply hno
   have hix:i < x.length:=by rw [hd.len];exact hil2
   have:w[i] = encQ x[i]:=by
    subst hx
    exact encL_get hix
   rw [this]
   obtain ⟨a,b,c⟩:=hd.ok i hix hil2
   exact q_okW a b c
  have start:∀ k,shares_claims_isAward.l0 (k + 1) w w (w.length:Int) (i:Int) l E = if decide (1 ≤ w[i].f1 ∧ w[i].f1 ≤ 20) = true then ((shares_isValid.f k w[i].f0 w[i].f1).bind fun t=>(if t = true then (if decide (0 ≤ w[i].f0 ∧ w[i].f0 ≤ wrap64 (l[i] * w[i].f1)) = true then (shares_claims_isAward.l0 k w w (w.length:Int) ((i + 1:Nat):Int) l E) else (some false)) else (some false))) else (some false):=by
   intro k
   rw [shares_claims_isAward.l0,if_pos (by omega),if_pos (by omega),if_pos (by omega),rdT hil,within_eq]
   simp only [Option.bind_some]
   have e2:(i:Int) < (l.length:Int):=by omega
   simp only [e2,if_true,rd_get hil2,within_eq,Option.bind_some,wrap_succ (show i < 9223372036854775807 by omega)]
  by_cases h1:1 ≤ w[i].f1 ∧ w[i].f1 ≤ 20
  ·obtain ⟨b,hb,hb1,_⟩:=ev_valid hi64.1 h1.1
   have hwr:wrap64 (l[i] * w[i].f1) = l[i] * w[i].f1:=by
    have a1:0 ≤ l[i] * w[i].f1:=Int.mul_nonneg hmi.1 (by omega)
    have a2:l[i] * w[i].f1 ≤ 1000 * 20:=Int.mul_le_mul hmi.2 h1.2 (by omega) (by omega)
    exact wrap_id (by omega) (by omega)
   cases hbv:b with
   | false =>
    refine ⟨false,?_,?_⟩
    ·constructor
     ·intro e;cases e
     ·intro hx
      refine absurd hx (no fun hk=>?_)
      have:=hb1 hk.2.2.2.1
      rw [hbv,decide_eq_true hk.2.2.1] at this
      cases this
    ·rw [hbv] at hb
     refine Ev.step start ?_
     refine Ev.congr (fun k=>if_pos (decide_eq_true h1)) (Ev.bind hb ?_)
     exact Ev.now _
   | true =>
    rw [hbv] at hb
    by_cases h2:0 ≤ w[i].f0 ∧ w[i].f0 ≤ l[i] * w[i].f1
    ·have hg:Nat.gcd w[i].f0.natAbs w[i].f1.toNat = 1:=by
      have:=hb1 h2.1
      rw [hbv] at this
      exact of_decide_eq_true this.symm
     have hk:okW l[i] w[i]:=⟨h1.1,h1.2,hg,h2.1,h2.2⟩
     obtain ⟨b',hb',ev'⟩:=ih (i + 1) (by omega) (fun j j1 j2 hj=>by
      by_cases e:j = i
      ·subst e;exact hk
      ·exact hok j j1 j2 (by omega))
     refine ⟨b',hb',Ev.step start ?_⟩
     refine Ev.congr (fun k=>if_pos (decide_eq_true h1)) (Ev.bind hb ?_)
     simp only [if_true]
     rw [hwr]
     exact Ev.congr (fun k=>if_pos (decide_eq_true h2)) ev'
    ·refine ⟨false,?_,Ev.step start ?_⟩
     ·constructor
      ·intro e;cases e
      ·intro hx
       exact absurd hx (no fun hk=>h2 ⟨hk.2.2.2.1,hk.2.2.2.2⟩)
     ·refine Ev.congr (fun k=>if_pos (decide_eq_true h1)) (Ev.bind hb ?_)
      simp only [if_true]
      rw [hwr]
      exact Ev.congr (fun k=>if_neg (by simpa using h2)) (Ev.now _)
  ·refine ⟨false,?_,Ev.step start (Ev.congr (fun k=>if_neg (by simpa using h1)) (Ev.now _))⟩
   constructor
   ·intro e;cases e
   ·intro hx
    exact absurd hx (no fun hk=>h1 ⟨hk.1,hk.2.1⟩)
theorem ev_isAward {w:List S23} (hin:∀ a ∈ w,inS a) (E:Int):∃ b:Bool,(b = true ↔ ∃ x,w = encL x ∧ IsDiv l E x) ∧ Ev (fun k=>shares_claims_isAward.f k l E w) b:=by
 unfold shares_claims_isAward.f
 by_cases hw:w.length = l.length
 ·obtain ⟨b,h1,h2⟩:=isAward_l0 h hw hin E w.length 0 (by omega) (fun j _ _ hj=>by omega)
  exact ⟨b,h1,Ev.congr (fun k=>if_pos (by omega)) h2⟩
 ·refine ⟨false,?_,Ev.congr (fun k=>if_neg (by omega)) (Ev.now _)⟩
  constructor
  ·intro e;cases e
  ·rintro ⟨x,rfl,hd⟩
   exact absurd (by rw [encL_length];exact hd.len) hw
theorem divides_l0 {w:List S23} (hw:w.length = l.length) (hin:∀ a ∈ w,inS a) (E:Int):∀ (d i:Nat) (y:List Rat),i + d = w.length → y.length = i → (∀ j (h1:j < w.length) (h2:j < l.length),j < i → okW l[j] w[j]) → w.take i = encL y →
  ∃ b:Bool,(b = true ↔ ∃ x,w = encL x ∧ IsDiv l E x) ∧ Ev (fun k=>numnahref07_Divides.l0 k l E w (i:Int) (tot y).num ((tot y).den:Int)) b:=by
 have hl:=h.ten
 intro d
 induction d with
 | zero =>
  intro i y hi hy hok hwy
  rw [List.take_of_length_le (by omega)] at hwy
  obtain ⟨x,hwx,hx1,hx2⟩:=all_x hw (fun i h1 h2=>hok i h1 h2 (by omega))
  obtain rfl:y = x:=encL_inj (hwy.symm.trans hwx)
  refine ⟨decide (tot y = (E:Rat)),?_,?_⟩
  ·rw [decide_eq_true_iff]
   exact ⟨fun ht=>⟨y,hwx,hx1,hx2,ht⟩,fun ⟨z,hz,hd⟩=>by rw [encL_inj (hwx.symm.trans hz)];exact hd.sum⟩
  ·refine Ev.step (f:=fun _=>some (decide (tot y = (E:Rat)))) (fun k=>?_) (Ev.now _)
   rw [numnahref07_Divides.l0,if_neg (by omega)]
   simp only [numnahref07_Whole.f,Option.bind_some]
   congr 1
   rw [Bool.eq_iff_iff,Bool.and_eq_true,beq_iff_eq,beq_iff_eq,decide_eq_true_iff]
   constructor
   ·rintro ⟨a,b⟩
    exact Rat.ext (by rw [whole_num];exact a) (by rw [whole_den];omega)
   ·intro e
    rw [e,whole_num,whole_den];exact ⟨rfl,rfl⟩
 | succ d ih =>
  intro i y hi hy hok hwy
  have hil:i < w.length:=by omega
  have hil2:i < l.length:=by omega
  have hmi:=h.mem _ (List.getElem_mem hil2)
  have hi64:=hin _ (List.getElem_mem hil)
  have no:¬ okW l[i] w[i] → ¬ ∃ x,w = encL x ∧ IsDiv l E x:=fun hno ⟨x,hx,hd⟩=>by
   apply hno
   have hix:i < x.length:=by rw [hd.len];exact hil2
   have:w[i] = encQ x[i]:=by
    subst hx
    exact encL_get hix
   rw [this]
   obtain ⟨a,b,c⟩:=hd.ok i hix hil2
   exact q_okW a b c
  have hwith:=ev_within_any hi64 (lo:=0) (hi:=20000) (d:=20) (by omega)
  have start:∀ k,numnahref07_Divides.l0 (k + 1) l E w (i:Int) (tot y).num ((tot y).den:Int) = (numnahref07_Within.f k w[i].f0 w[i].f1 0 20000 20).bind fun t=>(if t = true then ((numnahref07_Less.f l[i] 1 w[i].f0 w[i].f1).bind fun t2=>(if t2 = true then (some false) else ((numnahref07_Add.f k (tot y).num ((tot y).den:Int) w[i].f0 w[i].f1).bind fun bt=>numnahref07_Divides.l0 k l E w ((i + 1:Nat):Int) bt.1 bt.2))) else some false):=by
   intro k
   rw [numnahref07_Divides.l0,if_pos (by omega),if_pos (by omega),if_pos (by omega),rdT hil]
   simp only [numnahref07_Whole.f,Option.bind_some,rd_get hil2,wrap_succ (show i < 9223372036854775807 by omega)]
  by_cases hW:1 ≤ w[i].f1 ∧ w[i].f1 ≤ 20 ∧ 0 ≤ w[i].f0 ∧ w[i].f0 ≤ 20000 ∧ Nat.gcd w[i].f0.natAbs w[i].f1.toNat = 1
  ·rw [decide_eq_true hW] at hwith
   obtain ⟨b1,b2,b3,b4,b5⟩:=hW
   obtain ⟨q,q1,q2⟩:=is_valid (n:=w[i].f0) (d:=w[i].f1.toNat) (by omega) b5
   have hwq:w[i] = encQ q:=S23_ext q1.symm (by show w[i].f1 = (q.den:Int);omega)
   have q0:0 ≤ q:=Rat.num_nonneg.1 (by omega)
   have qs:Sm 20000 20 q:=⟨by omega,by omega⟩
   have hle:=rless ((Sm.int (n:=l[i]) (A:=1000) (by omega)).fits qs (by decide) (by decide))
   rw [whole_num,whole_den] at hle
   have hle':numnahref07_Less.f l[i] 1 q.num (q.den:Int) = _:=hle
   by_cases hlt:(l[i]:Rat) < q
   ·refine ⟨false,?_,Ev.step start (Ev.bind hwith ?_)⟩
    ·constructor
     ·intro e;cases e
     ·intro hx
      refine absurd hx (no fun hk=>?_)
      obtain ⟨q',hq',_,hqle,_⟩:=okW_q hk
      have:q' = q:=encQ_inj (hq'.symm.trans hwq)
      rw [this] at hqle
      grind
    ·simp only [if_true,hwq,encQ,hle',Option.bind_some]
     exact Ev.congr (fun k=>if_pos (decide_eq_true hlt)) (Ev.now _)
   ·have hqle:q ≤ (l[i]:Rat):=by grind
    have hk:okW l[i] w[i]:=by rw [hwq];exact q_okW q0 hqle (by omega)
    have hyx:∀ z ∈ y,0 ≤ z ∧ z ≤ ((1000:Nat):Rat) ∧ z.den ≤ 20:=by
     intro z hz
     obtain ⟨j,hj,rfl⟩:=List.mem_iff_getElem.1 hz
     have hjw:j < w.length:=by omega
     have e1:w[j] = encQ y[j]:=by
      have a1:(w.take i)[j]'(by rw [List.length_take];omega) = w[j]:=by rw [List.getElem_take]
      rw [← a1]
      simp only [hwy]
      exact encL_get hj
     obtain ⟨q',hq',z0,z1,z2⟩:=okW_q (hok j hjw (by omega) (by omega))
     have:q' = y[j]:=encQ_inj (hq'.symm.trans e1)
     rw [← this]
     exact ⟨z0,Rat.le_trans z1 (okC_int (h.mem _ (List.getElem_mem (by omega:j < l.length)))).hi,z2⟩
    have hadd:=ev_radd ((part_sm (x:=y) (by omega) hyx).fits qs (by decide) (by decide))
    have hty:tot y + q = tot (y ++ [q]):=by rw [tot_append,tot_cons,tot_nil];grind
    rw [hty] at hadd
    obtain ⟨b',hb',ev'⟩:=ih (i + 1) (y ++ [q]) (by omega) (by simp [hy]) (fun j j1 j2 hj=>by
     by_cases e:j = i
     ·subst e;exact hk
     ·exact hok j j1 j2 (by omega)) (by
      rw [List.take_succ_eq_append_getElem hil,hwy,hwq]
      unfold encL
      rw [List.map_append];rfl)
    refine ⟨b',hb',Ev.step start (Ev.bind hwith ?_)⟩
    simp only [if_true,hwq,encQ,hle',Option.bind_some]
    refine Ev.congr (fun k=>if_neg (by simpa using hlt)) (Ev.bind hadd ?_)
    exact ev'
  ·rw [decide_eq_false hW] at hwith
   refine ⟨false,?_,Ev.step start (Ev.bind hwith (Ev.now _))⟩
   constructor
   ·intro e;cases e
   ·intro hx
    refine absurd hx (no fun hk=>hW ⟨hk.1,hk.2.1,hk.2.2.2.1,?_,hk.2.2.1⟩)
    have a2:l[i] * w[i].f1 ≤ 1000 * 20:=Int.mul_le_mul hmi.2 hk.2.1 (by have:=hk.1;omega) (by omega)
    have:=hk.2.2.2.2
    omega
theorem ev_divides {w:List S23} (hin:∀ a ∈ w,inS a) (E:Int):∃ b:Bool,(b = true ↔ ∃ x,w = encL x ∧ IsDiv l E x) ∧ Ev (fun k=>numnahref07_Divides.f k l E w) b:=by
 unfold numnahref07_Divides.f
 by_cases hw:w.length = l.length
 ·obtain ⟨b,h1,h2⟩:=divides_l0 h hw hin E w.length 0 [] (by omega) rfl (fun j _ _ hj=>by omega) rfl
  refine ⟨b,h1,Ev.congr (fun k=>if_pos (by omega)) ?_⟩
  simp only [numnahref07_Whole.f,Option.bind_some]
  exact h2
 ·refine ⟨false,?_,Ev.congr (fun k=>if_neg (by omega)) (Ev.now _)⟩
  constructor
  ·intro e;cases e
  ·rintro ⟨x,rfl,hd⟩
   exact absurd (by rw [encL_length];exact hd.len) hw
end
end Go.Proofs.Ytjohcjfmlhihbaa.P

/- Several texts, joined. -/
import Derived.WalkKit
import Derived.ProofKit
import Derived.OpenShut
import Derived.ShutString
import Derived.ChangeOld
import Derived.ChangeSame
import Derived.Below
import Derived.SizedLaws
import Derived.Test.YtjohcjfmlhihbaaRows
import Derived.Test.YtjohcjfmlhihbaaQC2
namespace Go.Proofs.Ytjohcjfmlhihbaa.Row
end Go.Proofs.Ytjohcjfmlhihbaa.Row
set_option linter.unusedVariables false
set_option linter.unusedSimpArgs false
namespace Go.Proofs.Ytjohcjfmlhihbaa.Row
open Go Go.ChangeShapes Go.WideShapes Go.ChangeAt Go.RowKit Go.Proofs.Ytjohcjfmlhihbaa.G Go.Proofs.YtjohcjfmlhihbaaW.PrintWords
theorem add_add (a:Addr) (n:Nat):(a.add n).add 1 = a.add (n + 1):=by
 unfold Addr.add
 by_cases h:n = 0
 ·subst h;rfl
 ·rw [if_neg h,if_neg (by omega),if_neg (by omega)]
  simp only [Nat.add_assoc]
section
variable {H:Type} {enc:TypeId × Value → H} {w:World} {base:Nat} {spare:Nat → Bool} {held:Bool} {fuel:Nat} {cs:List Value} {x:DataW H × List MemPlace}
theorem open_list (h:DataW.trod enc Try.prog w base spare held fuel 28 cs = some x):∃ (A:Option Addr) (l:List Int) (c:Nat),cs = [.slice A l.length c] ∧ l.length ≤ c ∧ Kd.C (Kd.int .i64) w A l.length l:=by
 rcases open_ints Try.underlying28 Try.underlying3 (by kernel_rfl) h with ⟨rfl,_⟩ | ⟨a,len,cap,zs,rfl,_,hl,hm,hz,_,hcell,_⟩
 ·exact ⟨none,[],0,rfl,Nat.le_refl _,rfl,by decide,fun h=>by simp at h⟩
 ·have hzl:len ≤ zs.length:=by rw [hz];split <;> omega
  have hll:(zs.take len).length = len:=by rw [List.length_take];omega
  have hm':cap ≤ 9223372036854775807:=hm
  refine ⟨some a,zs.take len,cap,by rw [hll],by rw [hll];exact hl,rfl,by rw [hll];omega,fun _=>⟨a,rfl,fun j p hj=>?_⟩⟩
  rw [List.getElem?_take] at hj
  split at hj
  ·refine ⟨[.int .i64 p],rfl,rfl,fun i u hu=>?_⟩
   rcases i with _ | i
   ·simp only [List.getElem?_cons_zero,Option.some.injEq] at hu
    subst hu
    have hjl:=(List.getElem?_eq_some_iff.1 hj).1
    have:=hcell j hjl
    rw [List.getD_eq_getElem?_getD,hj,Option.getD_some] at this
    show w.cell? (a.add (j * 1 + 0)) = _
    rw [Nat.mul_one,Nat.add_zero]
    exact this
   ·simp at hu
  ·cases hj
theorem first_of {cs':List Value} {v:Value} {m:Nat} (h:(cs'.drop m).take 1 = [v]):cs'[m]? = some v:=by
 have e3:=congrArg (fun l:List Value=>l[0]?) h
 simp only [List.getElem?_take,List.getElem?_drop,List.getElem?_cons_zero] at e3
 simpa using e3
theorem open_fracs (h:DataW.trod enc Try.prog w base spare held fuel 35 cs = some x):∃ (A:Option Addr) (l:List S23) (c:Nat),cs = [.slice A l.length c] ∧ l.length ≤ c ∧ (∀ e ∈ l,(Lit.int .i64 e.f0).wf = true ∧ (Lit.int .i64 e.f1).wf = true) ∧ Kd.C k23 w A l.length l:=by
 rcases DataW.trod_slice Try.underlying35 h with ⟨rfl,_⟩ | ⟨a,len,cap,elems,rest,n,_,rfl,_,hb,hl,hm,hlen,hel,_,_⟩
 ·exact ⟨none,[],0,rfl,Nat.le_refl _,fun e he=>by simp at he,rfl,by decide,fun h=>by simp at h⟩
 ·have hm':cap ≤ 9223372036854775807:=hm
  have c23:Try.prog.cellsOf 23 = 2:=by kernel_rfl
  have c3:Try.prog.cellsOf 3 = 1:=by kernel_rfl
  have key:∀ i,i < len → ∃ e:S23,(w.cell? (a.add (i * 2)) = some (.int .i64 e.f0) ∧ w.cell? (a.add (i * 2 + 1)) = some (.int .i64 e.f1)) ∧ (Lit.int .i64 e.f0).wf = true ∧ (Lit.int .i64 e.f1).wf = true:=by
   intro i hi
   have h0:=hel i hi
   rw [List.getElem?_eq_getElem (by omega),Option.bind_eq_some_iff,c23] at h0
   obtain ⟨cs',h1,h2⟩:=h0
   obtain ⟨_,hcl,hcc⟩:=World.cells?_some h1
   obtain ⟨y0,y1,m1,_,_,e0,e1⟩:=trod_struct2 Try.underlying23 h2
   simp only [c3] at e0 e1
   obtain ⟨x0,q0,_,w0⟩:=DataW.trod_int Try.underlying3 e0
   obtain ⟨x1,q1,_,w1⟩:=DataW.trod_int Try.underlying3 e1
   have g0:cs'[0]? = some (.int .i64 x0):=first_of q0
   have g1:cs'[1]? = some (.int .i64 x1):=first_of q1
   have k0:=hcc 0 (by omega)
   have k1:=hcc 1 (by omega)
   refine ⟨⟨x0,x1⟩,⟨?_,?_⟩,w0,w1⟩
   ·have e:(a.add (i * 2)).add 0 = a.add (i * 2):=rfl
    rw [e] at k0;exact k0.trans g0
   ·have e:(a.add (i * 2)).add 1 = a.add (i * 2 + 1):=add_add a (i * 2)
    rw [e] at k1;exact k1.trans g1
  obtain ⟨f,hf⟩:∃ f:Nat → S23,∀ i,i < len → (w.cell? (a.add (i * 2)) = some (.int .i64 (f i).f0) ∧ w.cell? (a.add (i * 2 + 1)) = some (.int .i64 (f i).f1)) ∧ (Lit.int .i64 (f i).f0).wf = true ∧ (Lit.int .i64 (f i).f1).wf = true :=
   ⟨fun i=>if h:i < len then Classical.choose (key i h) else ⟨0,0⟩,fun i hi=>by simp only [dif_pos hi];exact Classical.choose_spec (key i hi)⟩
  have hll:((List.range len).map f).length = len:=by simp
  refine ⟨some a,(List.range len).map f,cap,by rw [hll],by rw [hll];exact hl,?_,rfl,by rw [hll];omega,fun _=>⟨a,rfl,fun j p hj=>?_⟩⟩
  ·intro e he
   rw [List.mem_map] at he
   obtain ⟨i,hi,rfl⟩:=he
   exact (hf i (List.mem_range.1 hi)).2
  rw [List.getElem?_map,Option.map_eq_some_iff] at hj
  obtain ⟨i,hi,rfl⟩:=hj
  have hil:=(List.getElem?_eq_some_iff.1 hi).1
  rw [List.length_range] at hil
  rw [List.getElem?_range hil,Option.some.injEq] at hi
  subst hi
  refine ⟨[.int .i64 (f j).f0,.int .i64 (f j).f1],rfl,k23_mk w (f j),fun i u hu=>?_⟩
  show w.cell? (a.add (j * 2 + i)) = _
  rcases i with _ | _ | i
  ·simp only [List.getElem?_cons_zero,Option.some.injEq] at hu;subst hu;exact (hf j hil).1.1
  ·simp only [List.getElem?_cons_succ,List.getElem?_cons_zero,Option.some.injEq] at hu;subst hu;exact (hf j hil).1.2
  ·simp at hu
theorem agg_of {P:Program} {r:Reach} {b0 n m:Nat} {t e:TypeId} {v:Value} (ht:P.underlying t = some (.array n e)) (hc:P.cellsOf t = m) (h:Value.okWide P w r b0 t v):∃ cs:Array Value,v = .agg cs ∧ cs.size = m:=by
 unfold Value.okWide at h
 rw [ht] at h
 obtain ⟨cs,h1,h2,_⟩:=h
 exact ⟨cs,h1,h2.trans hc⟩
set_option maxRecDepth 100000 in
theorem open_array {n m:Nat} {t:TypeId} {cs:Array Value} (ht:Try.prog.underlying t = some (.array n 3)) (h:DataW.trod enc Try.prog w base spare held m t cs.toList = some x):∀ i,i < n → ∃ a:Int,cs.toList[i]? = some (.int .i64 a) ∧ (Lit.int .i64 a).wf = true:=by
 obtain ⟨ys,m1,_,_,_,hn2,he2⟩:=DataW.trod_array ht h
 have c3:Try.prog.cellsOf 3 = 1:=by kernel_rfl
 intro i hi
 have e0:=he2 i hi
 simp only [c3] at e0
 rw [List.getElem?_eq_getElem (show i < ys.length by omega)] at e0
 obtain ⟨x0,q0,_,hw⟩:=DataW.trod_int Try.underlying3 e0
 refine ⟨x0,?_,hw⟩
 have e3:=congrArg (fun l:List Value=>l[0]?) q0
 simp only [List.getElem?_take,List.getElem?_drop,List.getElem?_cons_zero] at e3
 simpa using e3
theorem cc51:Try.prog.cellsOf 51 = 2:=by kernel_rfl
set_option maxRecDepth 100000 in
theorem open_int2 {r:Reach} {b0:Nat} {v:Value} {d:DataW H} {p:List MemPlace} (hv:Value.okWide Try.prog w r b0 51 v) (h:DataW.Trod enc Try.prog w base spare held 51 v d p):∃ a b:Int,v = .agg #[.int .i64 a,.int .i64 b] ∧ (Lit.int .i64 a).wf = true ∧ (Lit.int .i64 b).wf = true:=by
 obtain ⟨cs,rfl,hs2⟩:=agg_of Try.underlying51 cc51 hv
 obtain ⟨m,hm⟩:=h
 obtain ⟨a,ha,wa⟩:=open_array Try.underlying51 hm 0 (by decide)
 obtain ⟨b,hb,wb⟩:=open_array Try.underlying51 hm 1 (by decide)
 refine ⟨a,b,?_,wa,wb⟩
 congr 1
 apply Array.ext'
 apply List.ext_getElem?
 intro i
 rcases i with _ | _ | i
 ·exact ha
 ·exact hb
 ·rw [List.getElem?_eq_none (by simp [Array.length_toList];omega),List.getElem?_eq_none (by simp)]
set_option maxRecDepth 100000 in
theorem open_list1 {r:Reach} {b0:Nat} {v:Value} {d:DataW H} {p:List MemPlace} (hv:Value.okWide Try.prog w r b0 28 v) (h:DataW.Trod enc Try.prog w base spare held 28 v d p):∃ (A:Option Addr) (l:List Int) (c:Nat),v = .slice A l.length c ∧ l.length ≤ c ∧ Kd.C (Kd.int .i64) w A l.length l:=by
 obtain ⟨A,len,cap,rfl⟩:=okWide_slice Try.underlying28 hv
 obtain ⟨m,hm⟩:=h
 obtain ⟨A',l,c,e,r⟩:=open_list hm
 have e2:[Value.slice A len cap] = [.slice A' l.length c]:=e
 injection e2 with e2 _
 exact ⟨A',l,c,e2,r⟩
set_option maxRecDepth 100000 in
theorem open_fracs1 {r:Reach} {b0:Nat} {v:Value} {d:DataW H} {p:List MemPlace} (hv:Value.okWide Try.prog w r b0 35 v) (h:DataW.Trod enc Try.prog w base spare held 35 v d p):∃ (A:Option Addr) (l:List S23) (c:Nat),v = .slice A l.length c ∧ l.length ≤ c ∧ (∀ e ∈ l,(Lit.int .i64 e.f0).wf = true ∧ (Lit.int .i64 e.f1).wf = true) ∧ Kd.C k23 w A l.length l:=by
 obtain ⟨A,len,cap,rfl⟩:=okWide_slice Try.underlying35 hv
 obtain ⟨m,hm⟩:=h
 obtain ⟨A',l,c,e,r⟩:=open_fracs hm
 have e2:[Value.slice A len cap] = [.slice A' l.length c]:=e
 injection e2 with e2 _
 exact ⟨A',l,c,e2,r⟩
end
end Go.Proofs.Ytjohcjfmlhihbaa.Row
namespace Go.Proofs.Ytjohcjfmlhihbaa.G
open Go.RowKit Go.Proofs.YtjohcjfmlhihbaaW.PrintWords Go.Proofs.YtjohcjfmlhihbaaW.PrintLast Go.Proofs.YtjohcjfmlhihbaaW.PrintMore
set_option maxHeartbeats 8000000
set_option maxRecDepth 100000
attribute [local go_sem] cond_true cond_false fld23_0 fld23_1 fld45_0 fld45_1 fld109_0 fld109_1 fld94_0 fld94_1 max2_int min2_int max_two min_two max_three min_three max_four min_four   -- for this text's walks alone
attribute [local go_sem high] eqA23
def api_Frac_74.l0:Nat → List (S23) → List (S23) → Int → Int → Option (Bool)
 | 0,_,_,_,_=>none
 | k + 1,x0,x1,d2,a7=>if a7 < d2 then (if 0 ≤ a7 then (if a7 < (x0.length:Int) then (if a7 < (x1.length:Int) then (if (!(((rd_T23 x0 a7).f0) == ((rd_T23 x1 a7).f0)) || (!(((rd_T23 x0 a7).f1) == ((rd_T23 x1 a7).f1)))) = true then (some false) else (api_Frac_74.l0 k x0 x1 d2 (wrap64 (a7 + 1)))) else (none)) else (none)) else (none)) else (some true)
def api_Frac_74.f (k:Nat) (l0:List (S23)) (l1:List (S23)):Option (Bool):=if (l0.length:Int) = (l1.length:Int) then (api_Frac_74.l0 k l0 l1 (l0.length:Int) 0) else (some false)
theorem api_Frac_74.mono_l:∀ k,(∀ y0 y1 y2 y3,LeO (api_Frac_74.l0 k y0 y1 y2 y3) (api_Frac_74.l0 (k + 1) y0 y1 y2 y3))
 | 0=>fun _ _ _ _ r h=>by simp [api_Frac_74.l0] at h
 | k + 1=>by
  have b4:=api_Frac_74.mono_l k
  intro y0 y1 y2 y3
  unfold api_Frac_74.l0
  repeat' first
  | (with_reducible exact b4 _ _ _ _)
  | (with_reducible exact LeO.refl _)
  | (with_reducible exact LeO.none _)
  | (with_reducible refine LeO.ite ?_ ?_)
  | (with_reducible refine LeO.bind ?_ (fun _=>?_))
  | exact b4 _ _ _ _
  | exact LeO.none _
  | refine LeO.ite ?_ ?_
  | refine LeO.bind ?_ (fun _=>?_)
theorem api_Frac_74.mono:∀ a0 a1 k,LeO (api_Frac_74.f k a0 a1) (api_Frac_74.f (k + 1) a0 a1):=by
 intro a0 a1 k
 have b4:=api_Frac_74.mono_l k
 unfold api_Frac_74.f
 repeat' first
   | (with_reducible exact b4 _ _ _ _)
   | (with_reducible exact LeO.refl _)
   | (with_reducible exact LeO.none _)
   | (with_reducible refine LeO.ite ?_ ?_)
   | (with_reducible refine LeO.bind ?_ (fun _=>?_))
   | exact b4 _ _ _ _
   | exact LeO.none _
   | refine LeO.ite ?_ ?_
   | refine LeO.bind ?_ (fun _=>?_)
theorem api_Frac_74.calls (k:Nat) (A0:Option Addr) (c0:Nat) (l0:List (S23)) (A1:Option Addr) (c1:Nat) (l1:List (S23)) (r:Bool) (w:World) (d3:Kd.C k23 w A0 l0.length l0) (d4:l0.length ≤ c0) (d5:Kd.C k23 w A1 l1.length l1) (d6:l1.length ≤ c1) (h:api_Frac_74.f k l0 l1 = some r) :
  Calls Try.prog 74 #[.slice A0 l0.length c0,.slice A1 l1.length c1] w fun e w'=>e = .returned (.bool r) ∧ Drawn0 w w':=by
 have e0:=Try.underlying23
 have d7:=Aside0.mk d3
 have e5:=Aside0.mk d4
 clear d3 d4
 have d8:=Aside0.mk d5
 have e6:=Aside0.mk d6
 clear d5 d6
 have H:(if (l0.length:Int) = (l1.length:Int) then (api_Frac_74.l0 k l0 l1 (l0.length:Int) 0) else (some false)) = some r:=h
 clear h
 by_cases c3:(l0.length:Int) = (l1.length:Int)
 case neg =>
  rw [if_neg c3] at H
  have b5:((l0.length:Int) == (l1.length:Int)) = false:=beq_eq_false_iff_ne.mpr c3
  have b6:((l0.length:Int) != (l1.length:Int)) = true:=bne_iff_ne.mpr c3
  have b7:(l0.length == l1.length) = false:=by first | simpa using c3 | (simp at c3 ⊢;omega)
  obtain rfl:=Option.some.inj H
  go_enter Try.func74,Try.ntmps74
  go_wp2
  repeat (go_quiet (fail);try go_wp2)
  go_ret
  exact ⟨by first | rfl | (simp;done) | (simp [*];done),by repeat (first | exact Drawn0.refl _ | apply Drawn0.step)⟩
 rw [if_pos c3] at H
 have b5:((l0.length:Int) == (l1.length:Int)) = true:=beq_iff_eq.mpr c3
 have b6:((l0.length:Int) != (l1.length:Int)) = false:=bne_eq_false_iff_eq.mpr c3
 have b7:(l0.length == l1.length) = true:=by first | simpa using c3 | (simp at c3 ⊢;omega)
 clear c3
 have H':=Aside0.mk H
 clear H
 go_enter Try.func74,Try.ntmps74
 go_wp2
 repeat (go_quiet (fail);try go_wp2)
 go_loopg [13] k (fun kq e1 w'=>∃ (a2:Int),e1 = .int .i64 a2 ∧ Aside0 (api_Frac_74.l0 kq l0 l1 (l0.length:Int) a2 = some r) ∧ Aside0 (kq ≤ k) ∧ Drawn0 w w')
 case atStart=>exact ⟨(0),(by first | rfl | (simp;done) | (simp [*];done)),H',⟨Nat.le_refl _⟩,by repeat (first | exact Drawn0.refl _ | apply Drawn0.step)⟩
 case round =>
  clear H'
  try clear c1
  try clear p2
  try clear c3
  try clear b5
  try clear b6
  try clear b7
  obtain ⟨a2,rfl,HA,d9,⟨m1,rfl⟩⟩:=hrel
  cases gk with
  | zero=>exact absurd HA.out (by simp [api_Frac_74.l0])
  | succ k1 =>
   have H:=HA.out
   clear HA
   simp only [api_Frac_74.l0] at H
   by_cases c4:a2 < (l0.length:Int)
   case neg =>
    rw [if_neg c4] at H
    have d0:decide (a2 < (l0.length:Int)) = false:=decide_eq_false c4
    clear c4
    obtain rfl:=Option.some.inj H
    go_wp2
    repeat (go_quiet (fail);try go_wp2)
    go_ret
    exact ⟨by first | rfl | (simp;done) | (simp [*];done),by repeat (first | exact Drawn0.refl _ | apply Drawn0.step)⟩
   rw [if_pos c4] at H
   have d0:decide (a2 < (l0.length:Int)) = true:=decide_eq_true c4
   clear c4
   by_cases c5:0 ≤ a2
   case neg =>
    rw [if_neg c5] at H
    exact absurd H (by simp)
   rw [if_pos c5] at H
   have e2:decide (0 ≤ a2) = true:=decide_eq_true c5
   clear c5
   by_cases c6:a2 < (l0.length:Int)
   case neg =>
    rw [if_neg c6] at H
    exact absurd H (by simp)
   rw [if_pos c6] at H
   have e3:decide (a2 < (l0.length:Int)) = true:=decide_eq_true c6
   clear c6
   by_cases c7:a2 < (l1.length:Int)
   case neg =>
    rw [if_neg c7] at H
    exact absurd H (by simp)
   rw [if_pos c7] at H
   have e4:decide (a2 < (l1.length:Int)) = true:=decide_eq_true c7
   clear c7
   by_cases c8:(!(((rd_T23 l0 a2).f0) == ((rd_T23 l1 a2).f0)) || (!(((rd_T23 l0 a2).f1) == ((rd_T23 l1 a2).f1)))) = true
   ·rw [if_pos c8] at H
    have d1:(!(((rd_T23 l0 a2).f0) == ((rd_T23 l1 a2).f0)) || (!(((rd_T23 l0 a2).f1) == ((rd_T23 l1 a2).f1)))) = true:=c8
    clear c8
    obtain rfl:=Option.some.inj H
    have a3:0 ≤ (a2:Int):=of_decide_eq_true (by first | (with_reducible assumption) | assumption)
    have a4:a2 < (l0.length:Int):=of_decide_eq_true (by first | (with_reducible assumption) | assumption)
    obtain ⟨b8,b2,a8,a9⟩:=at_T23 d7.out a2 a3 a4
    cases b2
    replace a3:=eq_true a3
    replace a4:=eq_true a4
    have a5:0 ≤ (a2:Int):=of_decide_eq_true (by first | (with_reducible assumption) | assumption)
    have a6:a2 < (l1.length:Int):=of_decide_eq_true (by first | (with_reducible assumption) | assumption)
    obtain ⟨b9,b3,b0,b1⟩:=at_T23 d8.out a2 a5 a6
    cases b3
    replace a5:=eq_true a5
    replace a6:=eq_true a6
    go_wp2
    repeat (go_quiet (fail);try go_wp2)
    go_ret
    exact ⟨by first | rfl | (simp;done) | (simp [*];done),by repeat (first | exact Drawn0.refl _ | apply Drawn0.step)⟩
   rw [if_neg c8] at H
   have d1:(!(((rd_T23 l0 a2).f0) == ((rd_T23 l1 a2).f0)) || (!(((rd_T23 l0 a2).f1) == ((rd_T23 l1 a2).f1)))) = false:=by simpa using c8
   clear c8
   have H':=Aside0.mk H
   clear H
   have a3:0 ≤ (a2:Int):=of_decide_eq_true (by first | (with_reducible assumption) | assumption)
   have a4:a2 < (l0.length:Int):=of_decide_eq_true (by first | (with_reducible assumption) | assumption)
   obtain ⟨b8,b2,a8,a9⟩:=at_T23 d7.out a2 a3 a4
   cases b2
   replace a3:=eq_true a3
   replace a4:=eq_true a4
   have a5:0 ≤ (a2:Int):=of_decide_eq_true (by first | (with_reducible assumption) | assumption)
   have a6:a2 < (l1.length:Int):=of_decide_eq_true (by first | (with_reducible assumption) | assumption)
   obtain ⟨b9,b3,b0,b1⟩:=at_T23 d8.out a2 a5 a6
   cases b3
   replace a5:=eq_true a5
   replace a6:=eq_true a6
   go_wp2
   repeat (go_quiet (fail);try go_wp2)
   go_roundg k1
   case measure=>have:=d9.out;omega
   case rel=>exact ⟨(wrap64 (a2 + 1)),(by first | rfl | (simp;done) | (simp [*];done)),H',⟨by have:=d9.out;omega⟩,by repeat (first | exact Drawn0.refl _ | apply Drawn0.step)⟩
end Go.Proofs.Ytjohcjfmlhihbaa.G
namespace Go.Proofs.Ytjohcjfmlhihbaa.G
open Go.RowKit Go.Proofs.YtjohcjfmlhihbaaW.PrintWords Go.Proofs.YtjohcjfmlhihbaaW.PrintLast Go.Proofs.YtjohcjfmlhihbaaW.PrintMore
set_option maxHeartbeats 8000000
set_option maxRecDepth 100000
attribute [local go_sem] cond_true cond_false fld23_0 fld23_1 fld45_0 fld45_1 fld109_0 fld109_1 fld94_0 fld94_1 max2_int min2_int max_two min_two max_three min_three max_four min_four   -- for this text's walks alone
attribute [local go_sem high] eqA23
def shares_Right.f (k:Nat) (a0:Int) (l1:List Int) (a2:Int) (l3:List (S23)):Option (Int):=(shares_Award.f k a0 l1 a2).bind fun a5=>(if a5.2 = 0 then ((api_Frac_74.f k a5.1 l3).bind fun a7=>(if a7 = true then (some 0) else (some 10))) else (some a5.2))
theorem shares_Right.mono:∀ a0 a1 a2 a3 k,LeO (shares_Right.f k a0 a1 a2 a3) (shares_Right.f (k + 1) a0 a1 a2 a3):=by
 intro a0 a1 a2 a3 k
 unfold shares_Right.f
 repeat' first
   | (with_reducible exact api_Frac_74.mono _ _ _)
   | (with_reducible exact shares_Award.mono _ _ _ _)
   | (with_reducible exact LeO.refl _)
   | (with_reducible exact LeO.none _)
   | (with_reducible refine LeO.ite ?_ ?_)
   | (with_reducible refine LeO.bind ?_ (fun _=>?_))
   | exact api_Frac_74.mono _ _ _
   | exact shares_Award.mono _ _ _ _
   | exact LeO.none _
   | refine LeO.ite ?_ ?_
   | refine LeO.bind ?_ (fun _=>?_)
theorem shares_Right.calls (k:Nat) (a0:Int) (A1:Option Addr) (c1:Nat) (l1:List Int) (a2:Int) (A3:Option Addr) (c3:Nat) (l3:List (S23)) (r:Int) (w:World) (d2:Kd.C (Kd.int .i64) w A1 l1.length l1) (d3:l1.length ≤ c1) (d4:Kd.C k23 w A3 l3.length l3) (d5:l3.length ≤ c3) (h:shares_Right.f k a0 l1 a2 l3 = some r) :
  Calls Try.prog 37 #[.int .i64 a0,.slice A1 l1.length c1,.int .i64 a2,.slice A3 l3.length c3] w fun e w'=>e = .returned (.int .i64 r) ∧ Below w.heap.size w w':=by
 have b3:=Aside0.mk d2
 have b4:=Aside0.mk d3
 clear d2 d3
 have d6:=Aside0.mk d4
 have d7:=Aside0.mk d5
 clear d4 d5
 have HB:=Aside0.mk (Below.refl w.heap.size w)
 have H:((shares_Award.f k a0 l1 a2).bind fun a5=>(if a5.2 = 0 then ((api_Frac_74.f k a5.1 l3).bind fun a7=>(if a7 = true then (some 0) else (some 10))) else (some a5.2))) = some r:=h
 clear h
 replace H:=Option.bind_eq_some_iff.mp H
 obtain ⟨⟨a8,a6⟩,A50,H⟩:=H
 replace H:(if a6 = 0 then ((api_Frac_74.f k a8 l3).bind fun a7=>(if a7 = true then (some 0) else (some 10))) else (some a6)) = some r:=H
 have A5:=Aside0.mk A50
 clear A50
 by_cases c6:a6 = 0
 case neg =>
  rw [if_neg c6] at H
  have b5:(a6 == 0) = false:=beq_eq_false_iff_ne.mpr c6
  have b6:(a6 != 0) = true:=bne_iff_ne.mpr c6
  obtain rfl:=Option.some.inj H
  go_enter Try.func37,Try.ntmps37
  go_wp2_with (first | ((with_reducible refine gate_callee (f:=26) rfl ?_);refine goesL_ (some 15) rfl rfl Try.func26 (by kernel_rfl) rfl #[.int .i64 a0,.slice A1 l1.length c1,.int .i64 a2] rfl (by (try simp only [List.map_toArray,List.map_cons,List.map_nil]);first | done | rfl | (simp only [List.length_drop,List.length_take];rfl)) ?_;(with_reducible refine (shares_Award.calls k a0 _ _ l1 a2 a8 a6 _ ?side1 ?side2 A5.out).mono ?_);(case side1=>repeat (first | exact b3.out | (with_reducible refine Kd.C_alloc ?_ _) | (with_reducible refine Kd.C_drewN ?_ _) | (with_reducible refine Kd.C_drew ?_)));(case side2=>exact b4.out);rintro e d9 ⟨b2,rfl,a9,hb⟩;refine ⟨_,rfl,?_⟩;have b0:=Aside0.mk (Kd.R_lower a9 (below_size (by repeat (first | (with_reducible first | exact HB.out | apply below_alloc | apply pw_below_drewN | apply below_drew1) | exact HB.out))));have b1:=Aside0.mk (below_step (by repeat (first | (with_reducible first | exact HB.out | apply below_alloc | apply pw_below_drewN | apply below_drew1) | exact HB.out)) hb);clear HB;have a4:=b0;have HB:=b1;clear b0 b1;(try clear hb);(try clear a9)))
  go_ret
  exact ⟨by first | rfl | (simp [errW_none,errW_some] <;> rfl) | (simp [*,errW_none,errW_some] <;> rfl),by repeat (first | (with_reducible first | exact HB.out | apply below_alloc | apply pw_below_drewN | apply below_drew1) | exact HB.out)⟩
 rw [if_pos c6] at H
 have b5:(a6 == 0) = true:=beq_iff_eq.mpr c6
 have b6:(a6 != 0) = false:=bne_eq_false_iff_eq.mpr c6
 clear c6
 replace H:=Option.bind_eq_some_iff.mp H
 obtain ⟨a7,d8,H⟩:=H
 replace H:(if a7 = true then (some 0) else (some 10)) = some r:=H
 have A7:=Aside0.mk d8
 clear d8
 by_cases c8:a7 = true
 ·subst c8
  have H1:(some 0) = some r:=by rw [if_pos rfl] at H;exact H
  clear H
  have H:=H1
  clear H1
  obtain rfl:=Option.some.inj H
  go_enter Try.func37,Try.ntmps37
  go_wp2_with (first | ((with_reducible refine gate_callee (f:=26) rfl ?_);refine goesL_ (some 15) rfl rfl Try.func26 (by kernel_rfl) rfl #[.int .i64 a0,.slice A1 l1.length c1,.int .i64 a2] rfl (by (try simp only [List.map_toArray,List.map_cons,List.map_nil]);first | done | rfl | (simp only [List.length_drop,List.length_take];rfl)) ?_;(with_reducible refine (shares_Award.calls k a0 _ _ l1 a2 a8 a6 _ ?side1 ?side2 A5.out).mono ?_);(case side1=>repeat (first | exact b3.out | (with_reducible refine Kd.C_alloc ?_ _) | (with_reducible refine Kd.C_drewN ?_ _) | (with_reducible refine Kd.C_drew ?_)));(case side2=>exact b4.out);rintro e w9 ⟨b2,rfl,a9,hb⟩;refine ⟨_,rfl,?_⟩;have b0:=Aside0.mk (Kd.R_lower a9 (below_size (by repeat (first | (with_reducible first | exact HB.out | apply below_alloc | apply pw_below_drewN | apply below_drew1) | exact HB.out))));have b1:=Aside0.mk (below_step (by repeat (first | (with_reducible first | exact HB.out | apply below_alloc | apply pw_below_drewN | apply below_drew1) | exact HB.out)) hb);clear HB;have a4:=b0;have HB:=b1;clear b0 b1;(try clear hb);(try clear a9);obtain ⟨b7,b8,b9⟩:=Kd.R_slice a4.out;subst b9) | ((with_reducible refine gate_callee (f:=74) rfl ?_);refine goesL_ (some 23) rfl rfl Try.func74 (by kernel_rfl) rfl #[.slice b7 a8.length b8,.slice A3 l3.length c3] rfl (by (try simp only [List.map_toArray,List.map_cons,List.map_nil]);first | done | rfl | (simp only [List.length_drop,List.length_take];rfl)) ?_;(with_reducible refine (api_Frac_74.calls k _ _ a8 _ _ l3 true _ ?side1 ?side2 ?side3 ?side4 A7.out).mono ?_);(case side1=>repeat (first | exact (Kd.R_reads' a4.out).2.2 | (with_reducible refine Kd.C_alloc ?_ _) | (with_reducible refine Kd.C_drewN ?_ _) | (with_reducible refine Kd.C_drew ?_)));(case side2=>exact (Kd.R_reads' a4.out).2.1);(case side3=>repeat (first | exact (Kd.C_below d6.out HB.out) | (with_reducible refine Kd.C_alloc ?_ _) | (with_reducible refine Kd.C_drewN ?_ _) | (with_reducible refine Kd.C_drew ?_)));(case side4=>exact d7.out);rintro e w' ⟨rfl,⟨nd,rfl⟩⟩;refine ⟨_,rfl,?_⟩))
  go_ret
  exact ⟨by first | rfl | (simp [errW_none,errW_some] <;> rfl) | (simp [*,errW_none,errW_some] <;> rfl),by repeat (first | (with_reducible first | exact HB.out | apply below_alloc | apply pw_below_drewN | apply below_drew1) | exact HB.out)⟩
 replace c8:=Bool.eq_false_iff.mpr c8
 subst c8
 have H1:(some 10) = some r:=by rw [if_neg (show ¬ (false = true) by decide)] at H;exact H
 clear H
 have H:=H1
 clear H1
 obtain rfl:=Option.some.inj H
 go_enter Try.func37,Try.ntmps37
 go_wp2_with (first | ((with_reducible refine gate_callee (f:=26) rfl ?_);refine goesL_ (some 15) rfl rfl Try.func26 (by kernel_rfl) rfl #[.int .i64 a0,.slice A1 l1.length c1,.int .i64 a2] rfl (by (try simp only [List.map_toArray,List.map_cons,List.map_nil]);first | done | rfl | (simp only [List.length_drop,List.length_take];rfl)) ?_;(with_reducible refine (shares_Award.calls k a0 _ _ l1 a2 a8 a6 _ ?side1 ?side2 A5.out).mono ?_);(case side1=>repeat (first | exact b3.out | (with_reducible refine Kd.C_alloc ?_ _) | (with_reducible refine Kd.C_drewN ?_ _) | (with_reducible refine Kd.C_drew ?_)));(case side2=>exact b4.out);rintro e e0 ⟨b2,rfl,a9,hb⟩;refine ⟨_,rfl,?_⟩;have b0:=Aside0.mk (Kd.R_lower a9 (below_size (by repeat (first | (with_reducible first | exact HB.out | apply below_alloc | apply pw_below_drewN | apply below_drew1) | exact HB.out))));have b1:=Aside0.mk (below_step (by repeat (first | (with_reducible first | exact HB.out | apply below_alloc | apply pw_below_drewN | apply below_drew1) | exact HB.out)) hb);clear HB;have a4:=b0;have HB:=b1;clear b0 b1;(try clear hb);(try clear a9);obtain ⟨c0,d0,d1⟩:=Kd.R_slice a4.out;subst d1) | ((with_reducible refine gate_callee (f:=74) rfl ?_);refine goesL_ (some 23) rfl rfl Try.func74 (by kernel_rfl) rfl #[.slice c0 a8.length d0,.slice A3 l3.length c3] rfl (by (try simp only [List.map_toArray,List.map_cons,List.map_nil]);first | done | rfl | (simp only [List.length_drop,List.length_take];rfl)) ?_;(with_reducible refine (api_Frac_74.calls k _ _ a8 _ _ l3 false _ ?side1 ?side2 ?side3 ?side4 A7.out).mono ?_);(case side1=>repeat (first | exact (Kd.R_reads' a4.out).2.2 | (with_reducible refine Kd.C_alloc ?_ _) | (with_reducible refine Kd.C_drewN ?_ _) | (with_reducible refine Kd.C_drew ?_)));(case side2=>exact (Kd.R_reads' a4.out).2.1);(case side3=>repeat (first | exact (Kd.C_below d6.out HB.out) | (with_reducible refine Kd.C_alloc ?_ _) | (with_reducible refine Kd.C_drewN ?_ _) | (with_reducible refine Kd.C_drew ?_)));(case side4=>exact d7.out);rintro e w' ⟨rfl,⟨nd,rfl⟩⟩;refine ⟨_,rfl,?_⟩))
 go_ret
 exact ⟨by first | rfl | (simp [errW_none,errW_some] <;> rfl) | (simp [*,errW_none,errW_some] <;> rfl),by repeat (first | (with_reducible first | exact HB.out | apply below_alloc | apply pw_below_drewN | apply below_drew1) | exact HB.out)⟩
end Go.Proofs.Ytjohcjfmlhihbaa.G
namespace Go.Proofs.Ytjohcjfmlhihbaa.G
open Go.RowKit Go.Proofs.YtjohcjfmlhihbaaW.PrintWords Go.Proofs.YtjohcjfmlhihbaaW.PrintLast Go.Proofs.YtjohcjfmlhihbaaW.PrintMore
attribute [local go_sem] max2_int min2_int max_two min_two max_three min_three max_four min_four   -- for this text's walks alone
set_option linter.unusedVariables false
set_option linter.unusedSimpArgs false
def numnahlaw07_list.f (l0:List Int):Option ((List Int)):=if 0 ≤ (mn (l0.length:Int) 11) then (if (mn (l0.length:Int) 11) ≤ (l0.length:Int) then ((some (l0.take ((mn (l0.length:Int) 11):Int).toNat:List Int)).bind fun y101=>(if ([]:List Int).length + y101.length < 8796093022208 then (some (([]:List Int) ++ y101)) else (none))) else (none)) else (none)
set_option maxHeartbeats 8000000 in
set_option maxRecDepth 100000 in
theorem numnahlaw07_list.calls (A0:Option Addr) (c0:Nat) (l0:List Int) (r:List Int) (w:World) (hr0:Kd.C (Kd.int .i64) w A0 l0.length l0) (hc0:l0.length ≤ c0) (h:numnahlaw07_list.f l0 = some r) :
  Calls Try.prog 35 #[.slice A0 l0.length c0] w fun e w'=>∃ v0_:Value,e = .returned (v0_) ∧ Kd.R (Kd.int .i64) 3 w' w.heap.size (fun _=>True) v0_ r ∧ Below w.heap.size w w':=by
 have HR0:=Aside0.mk hr0
 have HC0:=Aside0.mk hc0
 clear hr0 hc0
 have HB:=Aside0.mk (Below.refl w.heap.size w)
 have H:(if 0 ≤ (mn (l0.length:Int) 11) then (if (mn (l0.length:Int) 11) ≤ (l0.length:Int) then ((some (l0.take ((mn (l0.length:Int) 11):Int).toNat:List Int)).bind fun y101=>(if ([]:List Int).length + y101.length < 8796093022208 then (some (([]:List Int) ++ y101)) else (none))) else (none)) else (none)) = some r:=h
 clear h
 obtain ⟨ji2,hji2⟩:∃ j_:Int,(mn (l0.length:Int) 11) = j_:=⟨_,rfl⟩
 replace H:(if 0 ≤ (ji2) then (if (ji2) ≤ (l0.length:Int) then ((some (l0.take ((ji2):Int).toNat:List Int)).bind fun y101=>(if ([]:List Int).length + y101.length < 8796093022208 then (some (([]:List Int) ++ y101)) else (none))) else (none)) else (none)) = some r:=by first | (rw [hji2] at H;exact H) | (simp only [hji2] at H ⊢;exact H)
 (try (have hji2h:ji2 ≤ 11:=by (rw [← hji2];unfold mn;(repeat' split) <;> omega)))
 (try (have hji2g:ji2 ≤ 64:=by omega))
 (try (have hji2l:0 ≤ ji2:=by (rw [← hji2];unfold mn;(repeat' split) <;> omega)))
 (try (have hji2m:0 ≤ ji2:=by omega))
 have hji2_:(if 11 < (l0.length:Int) then 11 else (l0.length:Int)) = ji2:=hji2
 by_cases c3:0 ≤ (ji2)
 ·rw [if_pos c3] at H
  have c3b0:=eq_true c3
  have c3b1:decide (0 ≤ (ji2)) = true:=decide_eq_true c3
  clear c3
  by_cases c4:(ji2) ≤ (l0.length:Int)
  ·rw [if_pos c4] at H
   have c4b0:=eq_true c4
   have c4b1:decide ((ji2) ≤ (l0.length:Int)) = true:=decide_eq_true c4
   clear c4
   obtain ⟨y101,hy101⟩:∃ y_:List Int,y_ = (l0.take ((ji2):Int).toNat):=⟨_,rfl⟩
   replace H:(if ([]:List Int).length + y101.length < 8796093022208 then (some (([]:List Int) ++ y101)) else (none)) = some r:=by first | (rw [hy101];with_reducible exact H) | (have H2_:=(Option.bind_some _ _).symm.trans H;rw [hy101];with_reducible exact H2_) | (have H2_:=(Option.bind_some _ _).symm.trans H;with_reducible exact H2_) | with_reducible exact H | (rw [hy101];exact H) | exact H
   have Ny101:=Aside0.mk hy101
   clear hy101
   by_cases c5:([]:List Int).length + y101.length < 8796093022208
   ·rw [if_pos c5] at H
    have LMc5:=Aside0.mk c5
    clear c5
    obtain ⟨y105,hy105⟩:∃ y_:List Int,y_ = (([]:List Int) ++ y101):=⟨_,rfl⟩
    replace H:(some y105) = some r:=by first | (rw [hy105];with_reducible exact H) | (have H2_:=(Option.bind_some _ _).symm.trans H;rw [hy105];with_reducible exact H2_) | (have H2_:=(Option.bind_some _ _).symm.trans H;with_reducible exact H2_) | with_reducible exact H | (rw [hy105];exact H) | exact H
    have Ny105:=Aside0.mk hy105
    clear hy105
    obtain rfl:=Option.some.inj H
    have q6:((ji2):Int) ≤ ((l0.length:Int):Int):=of_decide_eq_true (by first | (with_reducible assumption) | assumption)
    obtain ⟨i06,hi06,_,hsz6,_⟩:=info_parts info3
    have hroom6:l0.length ≤ c0:=HC0.out
    have hC6:Kd.C (Kd.int .i64) _ A0 l0.length l0:=HR0.out
    have hcut6:=cut_to (P:=Try.prog) 28 3 .i64 Try.underlying28 hi06 A0 l0.length c0 (ji2) (of_decide_eq_true (by first | (with_reducible assumption) | assumption)) q6 hroom6
    have hr6:=Kd.C_take (m:=((ji2):Int).toNat) hC6 (by omega)
    have hy6:y101.length = ((ji2):Int).toNat:=(by rw [Ny101.out,List.length_take];omega)
    rw [← Ny101.out] at hr6
    rw [← hy6] at hcut6
    have HR104:=Aside0.mk hr6
    have HC104:=Aside0.mk (show y101.length ≤ c0 from by omega)
    clear hr6 hC6 hroom6 hi06 hsz6
    have KY6:=Aside0.mk hy6
    clear hy6
    replace q6:=eq_true q6
    go_enter Try.func35,Try.ntmps35
    go_wp2_with (first | ((with_reducible refine gate_builtin (b:=.append) (xs:=#[.tmp 4,.tmp 9]) rfl ?_);at_builtin;refine Kd.R_append_rows (Kd.int .i64) (w0:=w) w.heap.size rfl (.tmp 4) (.tmp 9) 28 3 (.int .i64 0) 8 rfl Try.underlying28 info3 rfl (by decide) (by omega) (.slice none 0 0) ([]:List Int) y101 _ _ _ (fun _=>True) (fun _=>False) rfl rfl ?aO ?aR (fun _ _ h=>h) (fun _ h=>h.elim) ?aF ?aB ?aS ?aL ?_;(case aR=>repeat (first | exact HR104.out | (with_reducible refine Kd.C_alloc ?_ _) | (with_reducible refine Kd.C_drewN ?_ _) | (with_reducible refine Kd.C_drew ?_)));(case aB=>exact (by repeat (first | (with_reducible first | exact HB.out | apply below_alloc | apply pw_below_drewN | apply below_drew1) | exact HB.out)));(case aF=>exact (fun _ _=>trivial));(case aO=>exact ((Kd.R_nil _ _ _ _ (fun _=>True))));(case aS=>exact (below_size (by repeat (first | (with_reducible first | exact HB.out | apply below_alloc | apply pw_below_drewN | apply below_drew1) | exact HB.out))));(case aL=>have:=LMc5.out;omega);intro v106 w7 ho hb hg hat;rw [← Ny105.out] at ho;have n0_:=Aside0.mk (hb);have n1_:=Aside0.mk (ho);clear HB;have HB:=n0_;have HO107:=n1_;clear n0_ n1_;clear ho hb hg hat))
    go_ret
    exact ⟨_,by first | rfl | (simp [errW_none,errW_some] <;> rfl) | (simp only [← hji2];first | rfl | (simp [errW_none,errW_some] <;> rfl)) | (simp [*,errW_none,errW_some] <;> rfl),by (with_reducible repeat (first | apply Kd.R_alloc | apply Kd.R_drewN | apply Kd.R_drew));exact HO107.out,by repeat (first | (with_reducible first | exact HB.out | apply below_alloc | apply pw_below_drewN | apply below_drew1) | exact HB.out)⟩
   ·rw [if_neg c5] at H
    exact absurd H (by simp)
  ·rw [if_neg c4] at H
   exact absurd H (by simp)
 ·rw [if_neg c3] at H
  exact absurd H (by simp)
end Go.Proofs.Ytjohcjfmlhihbaa.G
namespace Go.Proofs.Ytjohcjfmlhihbaa.G
open Go.RowKit Go.Proofs.YtjohcjfmlhihbaaW.PrintWords Go.Proofs.YtjohcjfmlhihbaaW.PrintLast Go.Proofs.YtjohcjfmlhihbaaW.PrintMore
set_option maxHeartbeats 8000000
set_option maxRecDepth 100000
attribute [local go_sem] cond_true cond_false fld23_0 fld23_1 fld45_0 fld45_1 fld109_0 fld109_1 fld94_0 fld94_1 max2_int min2_int max_two min_two max_three min_three max_four min_four
mutual
def numnahlaw07_SharesAwards.j0:Nat → Int → Int → List Int → List (S23) → List (S23) → Int → Int → Bool → Option (Bool)
 | 0,_,_,_,_,_,_,_,_=>none
 | k + 1,x7,x8,x9,i2,p3,p4,h0,x46=>if x46 = true then (if (p3.length:Int) = 0 then (if p4 = 2 then (if h0 = 2 then ((numnahlaw07_awake.f k).bind fun e8=>(some e8)) else (some false)) else (some false)) else (some false)) else ((numnahref07_Award.f k x7 x9 x8).bind fun b7=>((numnahref07_Same.f k p3 b7).bind fun e9=>(if e9 = true then (if p4 = 0 then ((shares_Right.f k x7 x9 x8 b7).bind fun d6=>(numnahlaw07_SharesAwards.j1 k i2 h0 b7 (d6 != 0))) else (numnahlaw07_SharesAwards.j1 k i2 h0 b7 true)) else (numnahlaw07_SharesAwards.j1 k i2 h0 b7 true))))
def numnahlaw07_SharesAwards.j1:Nat → List (S23) → Int → List (S23) → Bool → Option (Bool)
 | 0,_,_,_,_=>none
 | k + 1,i2,h0,r2,x80=>if x80 = true then (some false) else ((numnahref07_Same.f k i2 r2).bind fun g4=>(if g4 = true then (if h0 = 0 then ((numnahlaw07_awake.f k).bind fun d8=>(some d8)) else (some false)) else (if h0 = 10 then ((numnahlaw07_awake.f k).bind fun d9=>(some d9)) else (some false))))
end
def numnahlaw07_SharesAwards.f (k:Nat) (a6:Int) (a9:Int) (l1:List Int) (l2:List (S23)):Option (Bool):=(numnahlaw07_list.f l1).bind fun b0=>((numnahlaw07_fracs.f l2).bind fun b2=>((shares_Award.f k a6 b0 a9).bind fun b5=>((shares_Right.f k a6 b0 a9 b2).bind fun b3=>(if a6 < 0 then (numnahlaw07_SharesAwards.j0 k a6 a9 b0 b2 b5.1 b5.2 b3 true) else (if a6 > 4 then (numnahlaw07_SharesAwards.j0 k a6 a9 b0 b2 b5.1 b5.2 b3 true) else ((numnahref07_Claims.f k b0 a9).bind fun d0=>(numnahlaw07_SharesAwards.j0 k a6 a9 b0 b2 b5.1 b5.2 b3 (!d0))))))))
theorem numnahlaw07_SharesAwards.mono_l:∀ k,(∀ y0 y1 y2 y3 y4 y5 y6 y7,LeO (numnahlaw07_SharesAwards.j0 k y0 y1 y2 y3 y4 y5 y6 y7) (numnahlaw07_SharesAwards.j0 (k + 1) y0 y1 y2 y3 y4 y5 y6 y7)) ∧ (∀ y0 y1 y2 y3,LeO (numnahlaw07_SharesAwards.j1 k y0 y1 y2 y3) (numnahlaw07_SharesAwards.j1 (k + 1) y0 y1 y2 y3))
 | 0=>⟨fun _ _ _ _ _ _ _ _ r h=>by simp [numnahlaw07_SharesAwards.j0] at h,fun _ _ _ _ r h=>by simp [numnahlaw07_SharesAwards.j1] at h⟩
 | k + 1=>by
  obtain ⟨m6,m7⟩:=numnahlaw07_SharesAwards.mono_l k
  refine ⟨?_,?_⟩
  ·intro y0 y1 y2 y3 y4 y5 y6 y7
   unfold numnahlaw07_SharesAwards.j0
   repeat' first
   | (with_reducible first | exact m6 _ _ _ _ _ _ _ _ | exact m7 _ _ _ _ | exact numnahlaw07_awake.mono _ | exact numnahref07_Award.mono _ _ _ _ | exact numnahref07_Claims.mono _ _ _ | exact numnahref07_Same.mono _ _ _ | exact shares_Award.mono _ _ _ _ | exact shares_Right.mono _ _ _ _ _ | exact LeO.refl _ | exact LeO.none _ | refine LeO.ite ?_ ?_ | refine LeO.bind ?_ (fun _=>?_))
   | exact LeO.none _ | refine LeO.ite ?_ ?_ | refine LeO.bind ?_ (fun _=>?_)
  intro y0 y1 y2 y3
  unfold numnahlaw07_SharesAwards.j1
  repeat' first
  | (with_reducible first | exact m6 _ _ _ _ _ _ _ _ | exact m7 _ _ _ _ | exact numnahlaw07_awake.mono _ | exact numnahref07_Award.mono _ _ _ _ | exact numnahref07_Claims.mono _ _ _ | exact numnahref07_Same.mono _ _ _ | exact shares_Award.mono _ _ _ _ | exact shares_Right.mono _ _ _ _ _ | exact LeO.refl _ | exact LeO.none _ | refine LeO.ite ?_ ?_ | refine LeO.bind ?_ (fun _=>?_))
  | exact LeO.none _ | refine LeO.ite ?_ ?_ | refine LeO.bind ?_ (fun _=>?_)
theorem numnahlaw07_SharesAwards.mono:∀ a0 a1 a2 a3 k,LeO (numnahlaw07_SharesAwards.f k a0 a1 a2 a3) (numnahlaw07_SharesAwards.f (k + 1) a0 a1 a2 a3):=by
 intro a0 a1 a2 a3 k
 obtain ⟨m6,m7⟩:=numnahlaw07_SharesAwards.mono_l k
 unfold numnahlaw07_SharesAwards.f
 repeat' first
   | (with_reducible first | exact m6 _ _ _ _ _ _ _ _ | exact m7 _ _ _ _ | exact numnahlaw07_awake.mono _ | exact numnahref07_Award.mono _ _ _ _ | exact numnahref07_Claims.mono _ _ _ | exact numnahref07_Same.mono _ _ _ | exact shares_Award.mono _ _ _ _ | exact shares_Right.mono _ _ _ _ _ | exact LeO.refl _ | exact LeO.none _ | refine LeO.ite ?_ ?_ | refine LeO.bind ?_ (fun _=>?_))
   | exact LeO.none _ | refine LeO.ite ?_ ?_ | refine LeO.bind ?_ (fun _=>?_)
theorem numnahlaw07_SharesAwards.calls (k:Nat) (a6:Int) (a9:Int) (A1:Option Addr) (c1:Nat) (l1:List Int) (A2:Option Addr) (c2:Nat) (l2:List (S23)) (r:Bool) (w:World) (p5:Kd.C (Kd.int .i64) w A1 l1.length l1) (p6:l1.length ≤ c1) (p7:Kd.C k23 w A2 l2.length l2) (p8:l2.length ≤ c2) (h:numnahlaw07_SharesAwards.f k a6 a9 l1 l2 = some r) (hrt_:r = true) :
  Calls Try.prog 9 #[.agg #[.int .i64 a6,.int .i64 a9],.slice A1 l1.length c1,.slice A2 l2.length c2] w fun e w'=>e = .returned (.bool r) ∧ Below w.heap.size w w':=by
 have HRT:=Aside0.mk hrt_
 clear hrt_
 have r3:=Try.underlying51
 have n2:=A_ p5
 have n3:=A_ p6
 clear p5 p6
 have n4:=A_ p7
 have n5:=A_ p8
 clear p7 p8
 have HB:=A_ (Below.refl w.heap.size w)
 have H:((numnahlaw07_list.f l1).bind fun b0=>((numnahlaw07_fracs.f l2).bind fun b2=>((shares_Award.f k a6 b0 a9).bind fun b5=>((shares_Right.f k a6 b0 a9 b2).bind fun b3=>(if a6 < 0 then (numnahlaw07_SharesAwards.j0 k a6 a9 b0 b2 b5.1 b5.2 b3 true) else (if a6 > 4 then (numnahlaw07_SharesAwards.j0 k a6 a9 b0 b2 b5.1 b5.2 b3 true) else ((numnahref07_Claims.f k b0 a9).bind fun d0=>(numnahlaw07_SharesAwards.j0 k a6 a9 b0 b2 b5.1 b5.2 b3 (!d0))))))))) = some r:=h
 clear h
 replace H:=Option.bind_eq_some_iff.mp H
 obtain ⟨b0,p9,H⟩:=H
 replace H:((numnahlaw07_fracs.f l2).bind fun b2=>((shares_Award.f k a6 b0 a9).bind fun b5=>((shares_Right.f k a6 b0 a9 b2).bind fun b3=>(if a6 < 0 then (numnahlaw07_SharesAwards.j0 k a6 a9 b0 b2 b5.1 b5.2 b3 true) else (if a6 > 4 then (numnahlaw07_SharesAwards.j0 k a6 a9 b0 b2 b5.1 b5.2 b3 true) else ((numnahref07_Claims.f k b0 a9).bind fun d0=>(numnahlaw07_SharesAwards.j0 k a6 a9 b0 b2 b5.1 b5.2 b3 (!d0)))))))) = some r:=H
 have A4:=A_ p9
 clear p9
 replace H:=Option.bind_eq_some_iff.mp H
 obtain ⟨b2,q0,H⟩:=H
 replace H:((shares_Award.f k a6 b0 a9).bind fun b5=>((shares_Right.f k a6 b0 a9 b2).bind fun b3=>(if a6 < 0 then (numnahlaw07_SharesAwards.j0 k a6 a9 b0 b2 b5.1 b5.2 b3 true) else (if a6 > 4 then (numnahlaw07_SharesAwards.j0 k a6 a9 b0 b2 b5.1 b5.2 b3 true) else ((numnahref07_Claims.f k b0 a9).bind fun d0=>(numnahlaw07_SharesAwards.j0 k a6 a9 b0 b2 b5.1 b5.2 b3 (!d0))))))) = some r:=H
 have A5:=A_ q0
 clear q0
 replace H:=Option.bind_eq_some_iff.mp H
 obtain ⟨⟨b9,c0⟩,A60,H⟩:=H
 replace H:((shares_Right.f k a6 b0 a9 b2).bind fun b3=>(if a6 < 0 then (numnahlaw07_SharesAwards.j0 k a6 a9 b0 b2 b9 c0 b3 true) else (if a6 > 4 then (numnahlaw07_SharesAwards.j0 k a6 a9 b0 b2 b9 c0 b3 true) else ((numnahref07_Claims.f k b0 a9).bind fun d0=>(numnahlaw07_SharesAwards.j0 k a6 a9 b0 b2 b9 c0 b3 (!d0)))))) = some r:=H
 have A6:=A_ A60
 clear A60
 replace H:=Option.bind_eq_some_iff.mp H
 obtain ⟨b3,q1,H⟩:=H
 replace H:(if a6 < 0 then (numnahlaw07_SharesAwards.j0 k a6 a9 b0 b2 b9 c0 b3 true) else (if a6 > 4 then (numnahlaw07_SharesAwards.j0 k a6 a9 b0 b2 b9 c0 b3 true) else ((numnahref07_Claims.f k b0 a9).bind fun d0=>(numnahlaw07_SharesAwards.j0 k a6 a9 b0 b2 b9 c0 b3 (!d0))))) = some r:=H
 have A7:=A_ q1
 clear q1
 have n6:=A_ H
 clear H
 go_enter Try.func9,Try.ntmps9
 go_upto_region 5 with (first | ((with_reducible refine gate_dst (N:=3) rfl ?_);refine bx 3 #[.int .i64 a6,.int .i64 a9] 51 ?_;intro d2 hg w9 hbox hb;have a4:=A_ hbox;have e0:=gw hg HB;have g8:=e0;replace HB:=bB HB hb;clear hb hbox hg;have e3:w9.cell? ⟨d2,0,none⟩ = some (.int .i64 a6):=cz a4 0;have e4:w9.cell? ⟨d2,1,none⟩ = some (.int .i64 a9):=cz a4 1;have e5:=blk_frozen a4.out 0;have e6:=blk_frozen a4.out 1) | (go_at_call 35;(with_reducible refine (numnahlaw07_list.calls _ _ l1 b0 _ ?side1 ?side2 A4.out).mono ?_);(case side1=>exact cB n2 HB);(case side2=>exact n3.out);rintro e q2 ⟨i3,rfl,d3,hb⟩;have a7:=A_ (Kd.R_lower d3 (below_size (bl HB)));replace a4:=kB a4 hb;replace HB:=bB HB hb;(try clear hb)) | (go_at_call 36;(with_reducible refine (numnahlaw07_fracs.calls _ _ l2 b2 _ ?side1 ?side2 A5.out).mono ?_);(case side1=>exact cB n4 HB);(case side2=>exact n5.out);rintro e q3 ⟨i4,rfl,d3,hb⟩;have b4:=A_ (Kd.R_lower d3 (below_size (bl HB)));replace a7:=rB a7 hb;replace a4:=kB a4 hb;replace HB:=bB HB hb;(try clear hb);obtain ⟨h1,h2,g2⟩:=Kd.R_slice a7.out;subst g2) | (go_at_call 26;(with_reducible refine (shares_Award.calls k a6 _ _ b0 a9 b9 c0 _ ?side1 ?side2 A6.out).mono ?_);(case side1=>repeat (first | exact (Kd.R_reads' a7.out).2.2 | (with_reducible refine Kd.C_alloc ?_ _) | (with_reducible refine Kd.C_drewN ?_ _) | (with_reducible refine Kd.C_drew ?_)));(case side2=>exact (Kd.R_reads' a7.out).2.1);rintro e q4 ⟨g5,rfl,d3,hb⟩;have d1:=A_ (Kd.R_lower (Kd.R_new' d3 (Kd.R_lt (rs b4))) (below_size (bl HB)));replace a7:=rB a7 hb;replace b4:=A_ (Kd.R_elder' (rs b4) (Kd.R_base d3) hb);replace a4:=kB a4 hb;replace HB:=bB HB hb;(try clear hb);obtain ⟨g0,g1,g3⟩:=Kd.R_slice b4.out;subst g3) | (go_at_call 37;(with_reducible refine (shares_Right.calls k a6 _ _ b0 a9 _ _ b2 b3 _ ?side1 ?side2 ?side3 ?side4 A7.out).mono ?_);(case side1=>repeat (first | exact (Kd.R_reads' a7.out).2.2 | (with_reducible refine Kd.C_alloc ?_ _) | (with_reducible refine Kd.C_drewN ?_ _) | (with_reducible refine Kd.C_drew ?_)));(case side2=>exact (Kd.R_reads' a7.out).2.1);(case side3=>repeat (first | exact (Kd.R_reads' b4.out).2.2 | (with_reducible refine Kd.C_alloc ?_ _) | (with_reducible refine Kd.C_drewN ?_ _) | (with_reducible refine Kd.C_drew ?_)));(case side4=>exact (Kd.R_reads' b4.out).2.1);rintro e q5 ⟨rfl,hb⟩;replace a7:=rB a7 hb;replace b4:=rB b4 hb;replace d1:=rB d1 hb;replace a4:=kB a4 hb;replace HB:=bB HB hb;(try clear hb)))
 repeat (go_quiet (first | ((with_reducible refine gate_dst (N:=3) rfl ?_);refine bx 3 #[.int .i64 a6,.int .i64 a9] 51 ?_;intro d2 hg w9 hbox hb;have a4:=A_ hbox;have e0:=gw hg HB;have g8:=e0;replace HB:=bB HB hb;clear hb hbox hg;have e3:w9.cell? ⟨d2,0,none⟩ = some (.int .i64 a6):=cz a4 0;have e4:w9.cell? ⟨d2,1,none⟩ = some (.int .i64 a9):=cz a4 1;have e5:=blk_frozen a4.out 0;have e6:=blk_frozen a4.out 1) | (go_at_call 35;(with_reducible refine (numnahlaw07_list.calls _ _ l1 b0 _ ?side1 ?side2 A4.out).mono ?_);(case side1=>exact cB n2 HB);(case side2=>exact n3.out);rintro e q2 ⟨i3,rfl,d3,hb⟩;have a7:=A_ (Kd.R_lower d3 (below_size (bl HB)));replace a4:=kB a4 hb;replace HB:=bB HB hb;(try clear hb)) | (go_at_call 36;(with_reducible refine (numnahlaw07_fracs.calls _ _ l2 b2 _ ?side1 ?side2 A5.out).mono ?_);(case side1=>exact cB n4 HB);(case side2=>exact n5.out);rintro e q3 ⟨i4,rfl,d3,hb⟩;have b4:=A_ (Kd.R_lower d3 (below_size (bl HB)));replace a7:=rB a7 hb;replace a4:=kB a4 hb;replace HB:=bB HB hb;(try clear hb);obtain ⟨h1,h2,g2⟩:=Kd.R_slice a7.out;subst g2) | (go_at_call 26;(with_reducible refine (shares_Award.calls k a6 _ _ b0 a9 b9 c0 _ ?side1 ?side2 A6.out).mono ?_);(case side1=>repeat (first | exact (Kd.R_reads' a7.out).2.2 | (with_reducible refine Kd.C_alloc ?_ _) | (with_reducible refine Kd.C_drewN ?_ _) | (with_reducible refine Kd.C_drew ?_)));(case side2=>exact (Kd.R_reads' a7.out).2.1);rintro e q4 ⟨g5,rfl,d3,hb⟩;have d1:=A_ (Kd.R_lower (Kd.R_new' d3 (Kd.R_lt (rs b4))) (below_size (bl HB)));replace a7:=rB a7 hb;replace b4:=A_ (Kd.R_elder' (rs b4) (Kd.R_base d3) hb);replace a4:=kB a4 hb;replace HB:=bB HB hb;(try clear hb);obtain ⟨g0,g1,g3⟩:=Kd.R_slice b4.out;subst g3) | (go_at_call 37;(with_reducible refine (shares_Right.calls k a6 _ _ b0 a9 _ _ b2 b3 _ ?side1 ?side2 ?side3 ?side4 A7.out).mono ?_);(case side1=>repeat (first | exact (Kd.R_reads' a7.out).2.2 | (with_reducible refine Kd.C_alloc ?_ _) | (with_reducible refine Kd.C_drewN ?_ _) | (with_reducible refine Kd.C_drew ?_)));(case side2=>exact (Kd.R_reads' a7.out).2.1);(case side3=>repeat (first | exact (Kd.R_reads' b4.out).2.2 | (with_reducible refine Kd.C_alloc ?_ _) | (with_reducible refine Kd.C_drewN ?_ _) | (with_reducible refine Kd.C_drew ?_)));(case side4=>exact (Kd.R_reads' b4.out).2.1);rintro e q5 ⟨rfl,hb⟩;replace a7:=rB a7 hb;replace b4:=rB b4 hb;replace d1:=rB d1 hb;replace a4:=kB a4 hb;replace HB:=bB HB hb;(try clear hb)));go_upto_region 5 with (first | ((with_reducible refine gate_dst (N:=3) rfl ?_);refine bx 3 #[.int .i64 a6,.int .i64 a9] 51 ?_;intro d2 hg w9 hbox hb;have a4:=A_ hbox;have e0:=gw hg HB;have g8:=e0;replace HB:=bB HB hb;clear hb hbox hg;have e3:w9.cell? ⟨d2,0,none⟩ = some (.int .i64 a6):=cz a4 0;have e4:w9.cell? ⟨d2,1,none⟩ = some (.int .i64 a9):=cz a4 1;have e5:=blk_frozen a4.out 0;have e6:=blk_frozen a4.out 1) | (go_at_call 35;(with_reducible refine (numnahlaw07_list.calls _ _ l1 b0 _ ?side1 ?side2 A4.out).mono ?_);(case side1=>exact cB n2 HB);(case side2=>exact n3.out);rintro e q2 ⟨i3,rfl,d3,hb⟩;have a7:=A_ (Kd.R_lower d3 (below_size (bl HB)));replace a4:=kB a4 hb;replace HB:=bB HB hb;(try clear hb)) | (go_at_call 36;(with_reducible refine (numnahlaw07_fracs.calls _ _ l2 b2 _ ?side1 ?side2 A5.out).mono ?_);(case side1=>exact cB n4 HB);(case side2=>exact n5.out);rintro e q3 ⟨i4,rfl,d3,hb⟩;have b4:=A_ (Kd.R_lower d3 (below_size (bl HB)));replace a7:=rB a7 hb;replace a4:=kB a4 hb;replace HB:=bB HB hb;(try clear hb);obtain ⟨h1,h2,g2⟩:=Kd.R_slice a7.out;subst g2) | (go_at_call 26;(with_reducible refine (shares_Award.calls k a6 _ _ b0 a9 b9 c0 _ ?side1 ?side2 A6.out).mono ?_);(case side1=>repeat (first | exact (Kd.R_reads' a7.out).2.2 | (with_reducible refine Kd.C_alloc ?_ _) | (with_reducible refine Kd.C_drewN ?_ _) | (with_reducible refine Kd.C_drew ?_)));(case side2=>exact (Kd.R_reads' a7.out).2.1);rintro e q4 ⟨g5,rfl,d3,hb⟩;have d1:=A_ (Kd.R_lower (Kd.R_new' d3 (Kd.R_lt (rs b4))) (below_size (bl HB)));replace a7:=rB a7 hb;replace b4:=A_ (Kd.R_elder' (rs b4) (Kd.R_base d3) hb);replace a4:=kB a4 hb;replace HB:=bB HB hb;(try clear hb);obtain ⟨g0,g1,g3⟩:=Kd.R_slice b4.out;subst g3) | (go_at_call 37;(with_reducible refine (shares_Right.calls k a6 _ _ b0 a9 _ _ b2 b3 _ ?side1 ?side2 ?side3 ?side4 A7.out).mono ?_);(case side1=>repeat (first | exact (Kd.R_reads' a7.out).2.2 | (with_reducible refine Kd.C_alloc ?_ _) | (with_reducible refine Kd.C_drewN ?_ _) | (with_reducible refine Kd.C_drew ?_)));(case side2=>exact (Kd.R_reads' a7.out).2.1);(case side3=>repeat (first | exact (Kd.R_reads' b4.out).2.2 | (with_reducible refine Kd.C_alloc ?_ _) | (with_reducible refine Kd.C_drewN ?_ _) | (with_reducible refine Kd.C_drew ?_)));(case side4=>exact (Kd.R_reads' b4.out).2.1);rintro e q5 ⟨rfl,hb⟩;replace a7:=rB a7 hb;replace b4:=rB b4 hb;replace d1:=rB d1 hb;replace a4:=kB a4 hb;replace HB:=bB HB hb;(try clear hb))))
 (try simp only [Act.put,List.setIfInBounds_toArray,List.set_cons_zero,List.set_cons_succ])
 go_cut [46] (fun r4 wc=>∃ (kq:Nat) (e7:Bool),r4 = .bool e7 ∧ Aside0 (numnahlaw07_SharesAwards.j0 kq a6 a9 b0 b2 b9 c0 b3 e7 = some r) ∧ Aside0 (kq ≤ k) ∧ Aside0 (Kd.R (Kd.int .i64) 3 wc w.heap.size (fun _=>True) (.slice h1 b0.length h2) b0) ∧ Aside0 (Kd.R k23 23 wc w.heap.size (fun k_=>some k_ ≠ (g5:Value).ownBlock) (.slice g0 b2.length g1) b2) ∧ Aside0 (Kd.R k23 23 wc w.heap.size (fun k_=>some k_ ≠ ((.slice g0 b2.length g1):Value).ownBlock) g5 b9) ∧ Aside0 (wc.heap[d2]? = some (.cells #[.int .i64 a6,.int .i64 a9] 51 (0,0))) ∧ Aside0 (Below w.heap.size w wc))
 case first =>
  have H:=n6.out
  clear n6
  by_cases h9:a6 < 0
  ·rw [if_pos h9] at H
   have e1:=decide_eq_true h9
   clear h9
   (first | rw [e1] | (simp only [i64_w,i32_w];rw [e1]) | skip)
   have H':=A_ H
   clear H
   go_wp2
   repeat (go_quiet (fail);try go_wp2)
   go_meet
   case rel=>exact ⟨_,(true),(by first | rfl | (simp;done) | (simp [*];done)),H',⟨by first | omega | exact Nat.le_refl _⟩,⟨by (with_reducible repeat (first | apply Kd.R_alloc | apply Kd.R_drewN | apply Kd.R_drew));exact a7.out⟩,⟨by (with_reducible repeat (first | apply Kd.R_alloc | apply Kd.R_drewN | apply Kd.R_drew));exact Kd.R_mono b4.out (fun _ hk=>hk.2)⟩,⟨by (with_reducible repeat (first | apply Kd.R_alloc | apply Kd.R_drewN | apply Kd.R_drew));exact Kd.R_mono d1.out (fun _ hk=>hk.2)⟩,⟨by (with_reducible repeat (first | refine blk_drewN ?_ _ | refine blk_drew ?_ | refine blk_alloc ?_ _));exact a4.out⟩,⟨bl HB⟩⟩
  rw [if_neg h9] at H
  have e1:=decide_eq_false h9
  clear h9
  (first | rw [e1] | (simp only [i64_w,i32_w];rw [e1]) | skip)
  by_cases i0:a6 > 4
  ·rw [if_pos i0] at H
   have i5:=decide_eq_true i0
   clear i0
   have H':=A_ H
   clear H
   go_wp2
   repeat (go_quiet (fail);try go_wp2)
   go_meet
   case rel=>exact ⟨_,(true),(by first | rfl | (simp;done) | (simp [*];done)),H',⟨by first | omega | exact Nat.le_refl _⟩,⟨by (with_reducible repeat (first | apply Kd.R_alloc | apply Kd.R_drewN | apply Kd.R_drew));exact a7.out⟩,⟨by (with_reducible repeat (first | apply Kd.R_alloc | apply Kd.R_drewN | apply Kd.R_drew));exact Kd.R_mono b4.out (fun _ hk=>hk.2)⟩,⟨by (with_reducible repeat (first | apply Kd.R_alloc | apply Kd.R_drewN | apply Kd.R_drew));exact Kd.R_mono d1.out (fun _ hk=>hk.2)⟩,⟨by (with_reducible repeat (first | refine blk_drewN ?_ _ | refine blk_drew ?_ | refine blk_alloc ?_ _));exact a4.out⟩,⟨bl HB⟩⟩
  rw [if_neg i0] at H
  have i5:=decide_eq_false i0
  clear i0
  replace H:=Option.bind_eq_some_iff.mp H
  obtain ⟨d0,i6,H⟩:=H
  replace H:(numnahlaw07_SharesAwards.j0 k a6 a9 b0 b2 b9 c0 b3 (!d0)) = some r:=H
  have n7:=A_ i6
  clear i6
  have H':=A_ H
  clear H
  go_wp2_with (first | (go_at_call 21;(with_reducible refine (numnahref07_Claims.calls k _ _ b0 a9 d0 _ ?side1 ?side2 n7.out).mono ?_);(case side1=>repeat (first | exact (Kd.R_reads' a7.out).2.2 | (with_reducible refine Kd.C_alloc ?_ _) | (with_reducible refine Kd.C_drewN ?_ _) | (with_reducible refine Kd.C_drew ?_)));(case side2=>exact (Kd.R_reads' a7.out).2.1);rintro e w' ⟨rfl,⟨nd,rfl⟩⟩;(try first | exact ⟨rfl,_,World.drewN_drewN _ _ _⟩ | exact ⟨rfl,_,Eq.trans (World.drewN_drewN _ _ _) (congrArg (World.drewN _) (Nat.add_assoc _ _ _))⟩)))
  repeat (go_quiet (first | (go_at_call 21;(with_reducible refine (numnahref07_Claims.calls k _ _ b0 a9 d0 _ ?side1 ?side2 n7.out).mono ?_);(case side1=>repeat (first | exact (Kd.R_reads' a7.out).2.2 | (with_reducible refine Kd.C_alloc ?_ _) | (with_reducible refine Kd.C_drewN ?_ _) | (with_reducible refine Kd.C_drew ?_)));(case side2=>exact (Kd.R_reads' a7.out).2.1);rintro e w' ⟨rfl,⟨nd,rfl⟩⟩;(try first | exact ⟨rfl,_,World.drewN_drewN _ _ _⟩ | exact ⟨rfl,_,Eq.trans (World.drewN_drewN _ _ _) (congrArg (World.drewN _) (Nat.add_assoc _ _ _))⟩)));try go_wp2_with (first | (go_at_call 21;(with_reducible refine (numnahref07_Claims.calls k _ _ b0 a9 d0 _ ?side1 ?side2 n7.out).mono ?_);(case side1=>repeat (first | exact (Kd.R_reads' a7.out).2.2 | (with_reducible refine Kd.C_alloc ?_ _) | (with_reducible refine Kd.C_drewN ?_ _) | (with_reducible refine Kd.C_drew ?_)));(case side2=>exact (Kd.R_reads' a7.out).2.1);rintro e w' ⟨rfl,⟨nd,rfl⟩⟩;(try first | exact ⟨rfl,_,World.drewN_drewN _ _ _⟩ | exact ⟨rfl,_,Eq.trans (World.drewN_drewN _ _ _) (congrArg (World.drewN _) (Nat.add_assoc _ _ _))⟩))))
  go_meet
  case rel=>exact ⟨_,(!d0),(by first | rfl | (simp;done) | (simp [*];done)),H',⟨by first | omega | exact Nat.le_refl _⟩,⟨by (with_reducible repeat (first | apply Kd.R_alloc | apply Kd.R_drewN | apply Kd.R_drew));exact a7.out⟩,⟨by (with_reducible repeat (first | apply Kd.R_alloc | apply Kd.R_drewN | apply Kd.R_drew));exact Kd.R_mono b4.out (fun _ hk=>hk.2)⟩,⟨by (with_reducible repeat (first | apply Kd.R_alloc | apply Kd.R_drewN | apply Kd.R_drew));exact Kd.R_mono d1.out (fun _ hk=>hk.2)⟩,⟨by (with_reducible repeat (first | refine blk_drewN ?_ _ | refine blk_drew ?_ | refine blk_alloc ?_ _));exact a4.out⟩,⟨bl HB⟩⟩
 case rest =>
  clear n6
  obtain ⟨kq,e7,rfl,HA,n8,b8,a5,a8,a4,HB⟩:=hcut
  cases kq with
  | zero=>exact absurd HA.out (by simp [numnahlaw07_SharesAwards.j0])
  | succ d4 =>
   have H:=HA.out
   clear HA
   simp only [numnahlaw07_SharesAwards.j0] at H
   by_cases m8:e7 = true
   ·subst m8
    rw [if_pos rfl] at H
    by_cases g9:(b9.length:Int) = 0
    case neg =>
     rw [if_neg g9] at H
     have i7:((b9.length:Int) == 0) = false:=beq_eq_false_iff_ne.mpr g9
     have i8:((b9.length:Int) != 0) = true:=bne_iff_ne.mpr g9
     have q6:¬ (b9 = []):=fun h_=>g9 (by rw [h_];rfl)
     exact absurd ((Option.some.inj H).trans HRT.out) (by decide)
    rw [if_pos g9] at H
    have i7:((b9.length:Int) == 0) = true:=beq_iff_eq.mpr g9
    have i8:((b9.length:Int) != 0) = false:=bne_eq_false_iff_eq.mpr g9
    clear g9
    by_cases h3:c0 = 2
    case neg =>
     rw [if_neg h3] at H
     have i9:(c0 == 2) = false:=beq_eq_false_iff_ne.mpr h3
     have j5:(c0 != 2) = true:=bne_iff_ne.mpr h3
     exact absurd ((Option.some.inj H).trans HRT.out) (by decide)
    rw [if_pos h3] at H
    have i9:(c0 == 2) = true:=beq_iff_eq.mpr h3
    have j5:(c0 != 2) = false:=bne_eq_false_iff_eq.mpr h3
    clear h3
    by_cases h4:b3 = 2
    case neg =>
     rw [if_neg h4] at H
     have j7:(b3 == 2) = false:=beq_eq_false_iff_ne.mpr h4
     have j8:(b3 != 2) = true:=bne_iff_ne.mpr h4
     exact absurd ((Option.some.inj H).trans HRT.out) (by decide)
    rw [if_pos h4] at H
    have j7:(b3 == 2) = true:=beq_iff_eq.mpr h4
    have j8:(b3 != 2) = false:=bne_eq_false_iff_eq.mpr h4
    clear h4
    replace H:=Option.bind_eq_some_iff.mp H
    obtain ⟨e8,j9,H⟩:=H
    replace H:(some e8) = some r:=H
    have n9:=A_ j9
    clear j9
    obtain rfl:=Option.some.inj H
    obtain ⟨r5,r6,o0⟩:=Kd.R_slice a8.out
    subst o0
    go_wp2_with (first | (go_at_call 22;(with_reducible refine (numnahlaw07_awake.calls d4  e8 _ n9.out).mono ?_);rintro e q7 ⟨rfl,hb⟩;replace b8:=rB b8 hb;replace a5:=rB a5 hb;replace a8:=rB a8 hb;replace a4:=kB a4 hb;replace HB:=bB HB hb;(try clear hb)))
    repeat (go_quiet (first | (go_at_call 22;(with_reducible refine (numnahlaw07_awake.calls d4  e8 _ n9.out).mono ?_);rintro e q7 ⟨rfl,hb⟩;replace b8:=rB b8 hb;replace a5:=rB a5 hb;replace a8:=rB a8 hb;replace a4:=kB a4 hb;replace HB:=bB HB hb;(try clear hb)));try go_wp2_with (first | (go_at_call 22;(with_reducible refine (numnahlaw07_awake.calls d4  e8 _ n9.out).mono ?_);rintro e q7 ⟨rfl,hb⟩;replace b8:=rB b8 hb;replace a5:=rB a5 hb;replace a8:=rB a8 hb;replace a4:=kB a4 hb;replace HB:=bB HB hb;(try clear hb))))
    go_ret
    exact ⟨by first | rfl | (simp [errW_none,errW_some] <;> rfl) | (simp [*,errW_none,errW_some] <;> rfl),bl HB⟩
   replace m8:=Bool.eq_false_iff.mpr m8
   subst m8
   rw [if_neg (show ¬ (false = true) by decide)] at H
   replace H:=Option.bind_eq_some_iff.mp H
   obtain ⟨b7,l5,H⟩:=H
   replace H:((numnahref07_Same.f d4 b9 b7).bind fun e9=>(if e9 = true then (if c0 = 0 then ((shares_Right.f d4 a6 b0 a9 b7).bind fun d6=>(numnahlaw07_SharesAwards.j1 d4 b2 b3 b7 (d6 != 0))) else (numnahlaw07_SharesAwards.j1 d4 b2 b3 b7 true)) else (numnahlaw07_SharesAwards.j1 d4 b2 b3 b7 true))) = some r:=H
   have o1:=A_ l5
   clear l5
   have h5:=A_ H
   clear H
   go_upto_region 8 with (first | (go_at_call 38;(with_reducible refine (numnahref07_Award.calls d4 a6 _ _ b0 a9 b7 _ ?side1 ?side2 o1.out).mono ?_);(case side1=>repeat (first | exact (Kd.R_reads' b8.out).2.2 | (with_reducible refine Kd.C_alloc ?_ _) | (with_reducible refine Kd.C_drewN ?_ _) | (with_reducible refine Kd.C_drew ?_)));(case side2=>exact (Kd.R_reads' b8.out).2.1);rintro e q8 ⟨g6,rfl,d3,hb⟩;have b1:=A_ (Kd.R_lower (Kd.R_new' (Kd.R_new' d3 (Kd.R_lt (rs a5))) (Kd.R_lt (rs a8))) (below_size (bl HB)));replace b8:=rB b8 hb;replace a5:=A_ (Kd.R_elder' (rs a5) (Kd.R_base d3) hb);replace a8:=A_ (Kd.R_elder' (rs a8) (Kd.R_base d3) hb);replace a4:=kB a4 hb;replace HB:=bB HB hb;(try clear hb)))
   repeat (go_quiet (first | (go_at_call 38;(with_reducible refine (numnahref07_Award.calls d4 a6 _ _ b0 a9 b7 _ ?side1 ?side2 o1.out).mono ?_);(case side1=>repeat (first | exact (Kd.R_reads' b8.out).2.2 | (with_reducible refine Kd.C_alloc ?_ _) | (with_reducible refine Kd.C_drewN ?_ _) | (with_reducible refine Kd.C_drew ?_)));(case side2=>exact (Kd.R_reads' b8.out).2.1);rintro e q8 ⟨g6,rfl,d3,hb⟩;have b1:=A_ (Kd.R_lower (Kd.R_new' (Kd.R_new' d3 (Kd.R_lt (rs a5))) (Kd.R_lt (rs a8))) (below_size (bl HB)));replace b8:=rB b8 hb;replace a5:=A_ (Kd.R_elder' (rs a5) (Kd.R_base d3) hb);replace a8:=A_ (Kd.R_elder' (rs a8) (Kd.R_base d3) hb);replace a4:=kB a4 hb;replace HB:=bB HB hb;(try clear hb)));go_upto_region 8 with (first | (go_at_call 38;(with_reducible refine (numnahref07_Award.calls d4 a6 _ _ b0 a9 b7 _ ?side1 ?side2 o1.out).mono ?_);(case side1=>repeat (first | exact (Kd.R_reads' b8.out).2.2 | (with_reducible refine Kd.C_alloc ?_ _) | (with_reducible refine Kd.C_drewN ?_ _) | (with_reducible refine Kd.C_drew ?_)));(case side2=>exact (Kd.R_reads' b8.out).2.1);rintro e q8 ⟨g6,rfl,d3,hb⟩;have b1:=A_ (Kd.R_lower (Kd.R_new' (Kd.R_new' d3 (Kd.R_lt (rs a5))) (Kd.R_lt (rs a8))) (below_size (bl HB)));replace b8:=rB b8 hb;replace a5:=A_ (Kd.R_elder' (rs a5) (Kd.R_base d3) hb);replace a8:=A_ (Kd.R_elder' (rs a8) (Kd.R_base d3) hb);replace a4:=kB a4 hb;replace HB:=bB HB hb;(try clear hb))))
   (try simp only [Act.put,List.setIfInBounds_toArray,List.set_cons_zero,List.set_cons_succ])
   go_cut [80] (fun r7 wc=>∃ (kq:Nat) (d7:Bool),r7 = .bool d7 ∧ Aside0 (numnahlaw07_SharesAwards.j1 kq b2 b3 b7 d7 = some r) ∧ Aside0 (kq ≤ d4) ∧ Aside0 (Kd.R k23 23 wc w.heap.size (fun k_=>some k_ ≠ (g6:Value).ownBlock) (.slice g0 b2.length g1) b2) ∧ Aside0 (Kd.R k23 23 wc w.heap.size (fun k_=>some k_ ≠ ((.slice g0 b2.length g1):Value).ownBlock) g6 b7) ∧ Aside0 (wc.heap[d2]? = some (.cells #[.int .i64 a6,.int .i64 a9] 51 (0,0))) ∧ Aside0 (Below w.heap.size w wc))
   case first =>
    have H:=h5.out
    clear h5
    replace H:=Option.bind_eq_some_iff.mp H
    obtain ⟨e9,l6,H⟩:=H
    replace H:(if e9 = true then (if c0 = 0 then ((shares_Right.f d4 a6 b0 a9 b7).bind fun d6=>(numnahlaw07_SharesAwards.j1 d4 b2 b3 b7 (d6 != 0))) else (numnahlaw07_SharesAwards.j1 d4 b2 b3 b7 true)) else (numnahlaw07_SharesAwards.j1 d4 b2 b3 b7 true)) = some r:=H
    have g7:=A_ l6
    clear l6
    by_cases m9:e9 = true
    case neg =>
     replace m9:=Bool.eq_false_iff.mpr m9
     subst m9
     rw [if_neg (show ¬ (false = true) by decide)] at H
     have H':=A_ H
     clear H
     obtain ⟨r8,r9,o2⟩:=Kd.R_slice a8.out
     subst o2
     obtain ⟨s0,s1,o3⟩:=Kd.R_slice b1.out
     subst o3
     go_wp2_with (first | (go_at_call 33;(with_reducible refine (numnahref07_Same.calls d4 _ _ b9 _ _ b7 false _ ?side1 ?side2 ?side3 ?side4 g7.out).mono ?_);(case side1=>repeat (first | exact (Kd.R_reads' a8.out).2.2 | (with_reducible refine Kd.C_alloc ?_ _) | (with_reducible refine Kd.C_drewN ?_ _) | (with_reducible refine Kd.C_drew ?_)));(case side2=>exact (Kd.R_reads' a8.out).2.1);(case side3=>repeat (first | exact (Kd.R_reads' b1.out).2.2 | (with_reducible refine Kd.C_alloc ?_ _) | (with_reducible refine Kd.C_drewN ?_ _) | (with_reducible refine Kd.C_drew ?_)));(case side4=>exact (Kd.R_reads' b1.out).2.1);rintro e w' ⟨rfl,⟨nd,rfl⟩⟩;(try first | exact ⟨rfl,_,World.drewN_drewN _ _ _⟩ | exact ⟨rfl,_,Eq.trans (World.drewN_drewN _ _ _) (congrArg (World.drewN _) (Nat.add_assoc _ _ _))⟩)))
     repeat (go_quiet (first | (go_at_call 33;(with_reducible refine (numnahref07_Same.calls d4 _ _ b9 _ _ b7 false _ ?side1 ?side2 ?side3 ?side4 g7.out).mono ?_);(case side1=>repeat (first | exact (Kd.R_reads' a8.out).2.2 | (with_reducible refine Kd.C_alloc ?_ _) | (with_reducible refine Kd.C_drewN ?_ _) | (with_reducible refine Kd.C_drew ?_)));(case side2=>exact (Kd.R_reads' a8.out).2.1);(case side3=>repeat (first | exact (Kd.R_reads' b1.out).2.2 | (with_reducible refine Kd.C_alloc ?_ _) | (with_reducible refine Kd.C_drewN ?_ _) | (with_reducible refine Kd.C_drew ?_)));(case side4=>exact (Kd.R_reads' b1.out).2.1);rintro e w' ⟨rfl,⟨nd,rfl⟩⟩;(try first | exact ⟨rfl,_,World.drewN_drewN _ _ _⟩ | exact ⟨rfl,_,Eq.trans (World.drewN_drewN _ _ _) (congrArg (World.drewN _) (Nat.add_assoc _ _ _))⟩)));try go_wp2_with (first | (go_at_call 33;(with_reducible refine (numnahref07_Same.calls d4 _ _ b9 _ _ b7 false _ ?side1 ?side2 ?side3 ?side4 g7.out).mono ?_);(case side1=>repeat (first | exact (Kd.R_reads' a8.out).2.2 | (with_reducible refine Kd.C_alloc ?_ _) | (with_reducible refine Kd.C_drewN ?_ _) | (with_reducible refine Kd.C_drew ?_)));(case side2=>exact (Kd.R_reads' a8.out).2.1);(case side3=>repeat (first | exact (Kd.R_reads' b1.out).2.2 | (with_reducible refine Kd.C_alloc ?_ _) | (with_reducible refine Kd.C_drewN ?_ _) | (with_reducible refine Kd.C_drew ?_)));(case side4=>exact (Kd.R_reads' b1.out).2.1);rintro e w' ⟨rfl,⟨nd,rfl⟩⟩;(try first | exact ⟨rfl,_,World.drewN_drewN _ _ _⟩ | exact ⟨rfl,_,Eq.trans (World.drewN_drewN _ _ _) (congrArg (World.drewN _) (Nat.add_assoc _ _ _))⟩))))
     go_meet
     case rel=>exact ⟨_,(true),(by first | rfl | (simp;done) | (simp [*];done)),H',⟨by have:=n8.out;first | omega | exact Nat.le_refl _⟩,⟨by (with_reducible repeat (first | apply Kd.R_alloc | apply Kd.R_drewN | apply Kd.R_drew));exact Kd.R_mono a5.out (fun _ hk=>hk.2)⟩,⟨by (with_reducible repeat (first | apply Kd.R_alloc | apply Kd.R_drewN | apply Kd.R_drew));exact Kd.R_mono b1.out (fun _ hk=>hk.1.2)⟩,⟨by (with_reducible repeat (first | refine blk_drewN ?_ _ | refine blk_drew ?_ | refine blk_alloc ?_ _));exact a4.out⟩,⟨bl HB⟩⟩
    subst m9
    rw [if_pos rfl] at H
    by_cases h6:c0 = 0
    case neg =>
     rw [if_neg h6] at H
     have e2:(c0 == 0) = false:=beq_eq_false_iff_ne.mpr h6
     have l7:(c0 != 0) = true:=bne_iff_ne.mpr h6
     (first | rw [e2] | (simp only [i64_w,i32_w];rw [e2]) | skip)
     have H':=A_ H
     clear H
     obtain ⟨s2,s3,o4⟩:=Kd.R_slice a8.out
     subst o4
     obtain ⟨s4,s5,o5⟩:=Kd.R_slice b1.out
     subst o5
     go_wp2_with (first | (go_at_call 33;(with_reducible refine (numnahref07_Same.calls d4 _ _ b9 _ _ b7 true _ ?side1 ?side2 ?side3 ?side4 g7.out).mono ?_);(case side1=>repeat (first | exact (Kd.R_reads' a8.out).2.2 | (with_reducible refine Kd.C_alloc ?_ _) | (with_reducible refine Kd.C_drewN ?_ _) | (with_reducible refine Kd.C_drew ?_)));(case side2=>exact (Kd.R_reads' a8.out).2.1);(case side3=>repeat (first | exact (Kd.R_reads' b1.out).2.2 | (with_reducible refine Kd.C_alloc ?_ _) | (with_reducible refine Kd.C_drewN ?_ _) | (with_reducible refine Kd.C_drew ?_)));(case side4=>exact (Kd.R_reads' b1.out).2.1);rintro e w' ⟨rfl,⟨nd,rfl⟩⟩;(try first | exact ⟨rfl,_,World.drewN_drewN _ _ _⟩ | exact ⟨rfl,_,Eq.trans (World.drewN_drewN _ _ _) (congrArg (World.drewN _) (Nat.add_assoc _ _ _))⟩)))
     repeat (go_quiet (first | (go_at_call 33;(with_reducible refine (numnahref07_Same.calls d4 _ _ b9 _ _ b7 true _ ?side1 ?side2 ?side3 ?side4 g7.out).mono ?_);(case side1=>repeat (first | exact (Kd.R_reads' a8.out).2.2 | (with_reducible refine Kd.C_alloc ?_ _) | (with_reducible refine Kd.C_drewN ?_ _) | (with_reducible refine Kd.C_drew ?_)));(case side2=>exact (Kd.R_reads' a8.out).2.1);(case side3=>repeat (first | exact (Kd.R_reads' b1.out).2.2 | (with_reducible refine Kd.C_alloc ?_ _) | (with_reducible refine Kd.C_drewN ?_ _) | (with_reducible refine Kd.C_drew ?_)));(case side4=>exact (Kd.R_reads' b1.out).2.1);rintro e w' ⟨rfl,⟨nd,rfl⟩⟩;(try first | exact ⟨rfl,_,World.drewN_drewN _ _ _⟩ | exact ⟨rfl,_,Eq.trans (World.drewN_drewN _ _ _) (congrArg (World.drewN _) (Nat.add_assoc _ _ _))⟩)));try go_wp2_with (first | (go_at_call 33;(with_reducible refine (numnahref07_Same.calls d4 _ _ b9 _ _ b7 true _ ?side1 ?side2 ?side3 ?side4 g7.out).mono ?_);(case side1=>repeat (first | exact (Kd.R_reads' a8.out).2.2 | (with_reducible refine Kd.C_alloc ?_ _) | (with_reducible refine Kd.C_drewN ?_ _) | (with_reducible refine Kd.C_drew ?_)));(case side2=>exact (Kd.R_reads' a8.out).2.1);(case side3=>repeat (first | exact (Kd.R_reads' b1.out).2.2 | (with_reducible refine Kd.C_alloc ?_ _) | (with_reducible refine Kd.C_drewN ?_ _) | (with_reducible refine Kd.C_drew ?_)));(case side4=>exact (Kd.R_reads' b1.out).2.1);rintro e w' ⟨rfl,⟨nd,rfl⟩⟩;(try first | exact ⟨rfl,_,World.drewN_drewN _ _ _⟩ | exact ⟨rfl,_,Eq.trans (World.drewN_drewN _ _ _) (congrArg (World.drewN _) (Nat.add_assoc _ _ _))⟩))))
     go_meet
     case rel=>exact ⟨_,(true),(by first | rfl | (simp;done) | (simp [*];done)),H',⟨by have:=n8.out;first | omega | exact Nat.le_refl _⟩,⟨by (with_reducible repeat (first | apply Kd.R_alloc | apply Kd.R_drewN | apply Kd.R_drew));exact Kd.R_mono a5.out (fun _ hk=>hk.2)⟩,⟨by (with_reducible repeat (first | apply Kd.R_alloc | apply Kd.R_drewN | apply Kd.R_drew));exact Kd.R_mono b1.out (fun _ hk=>hk.1.2)⟩,⟨by (with_reducible repeat (first | refine blk_drewN ?_ _ | refine blk_drew ?_ | refine blk_alloc ?_ _));exact a4.out⟩,⟨bl HB⟩⟩
    rw [if_pos h6] at H
    have e2:(c0 == 0) = true:=beq_iff_eq.mpr h6
    have l7:(c0 != 0) = false:=bne_eq_false_iff_eq.mpr h6
    clear h6
    (first | rw [e2] | (simp only [i64_w,i32_w];rw [e2]) | skip)
    replace H:=Option.bind_eq_some_iff.mp H
    obtain ⟨d6,l8,H⟩:=H
    replace H:(numnahlaw07_SharesAwards.j1 d4 b2 b3 b7 (d6 != 0)) = some r:=H
    have o6:=A_ l8
    clear l8
    have H':=A_ H
    clear H
    obtain ⟨s6,s7,o7⟩:=Kd.R_slice a8.out
    subst o7
    obtain ⟨s8,s9,o8⟩:=Kd.R_slice b1.out
    subst o8
    go_wp2_with (first | (go_at_call 33;(with_reducible refine (numnahref07_Same.calls d4 _ _ b9 _ _ b7 true _ ?side1 ?side2 ?side3 ?side4 g7.out).mono ?_);(case side1=>repeat (first | exact (Kd.R_reads' a8.out).2.2 | (with_reducible refine Kd.C_alloc ?_ _) | (with_reducible refine Kd.C_drewN ?_ _) | (with_reducible refine Kd.C_drew ?_)));(case side2=>exact (Kd.R_reads' a8.out).2.1);(case side3=>repeat (first | exact (Kd.R_reads' b1.out).2.2 | (with_reducible refine Kd.C_alloc ?_ _) | (with_reducible refine Kd.C_drewN ?_ _) | (with_reducible refine Kd.C_drew ?_)));(case side4=>exact (Kd.R_reads' b1.out).2.1);rintro e w' ⟨rfl,⟨nd,rfl⟩⟩;(try first | exact ⟨rfl,_,World.drewN_drewN _ _ _⟩ | exact ⟨rfl,_,Eq.trans (World.drewN_drewN _ _ _) (congrArg (World.drewN _) (Nat.add_assoc _ _ _))⟩)) | (go_at_call 37;(with_reducible refine (shares_Right.calls d4 a6 _ _ b0 a9 _ _ b7 d6 _ ?side1 ?side2 ?side3 ?side4 o6.out).mono ?_);(case side1=>repeat (first | exact (Kd.R_reads' b8.out).2.2 | (with_reducible refine Kd.C_alloc ?_ _) | (with_reducible refine Kd.C_drewN ?_ _) | (with_reducible refine Kd.C_drew ?_)));(case side2=>exact (Kd.R_reads' b8.out).2.1);(case side3=>repeat (first | exact (Kd.R_reads' b1.out).2.2 | (with_reducible refine Kd.C_alloc ?_ _) | (with_reducible refine Kd.C_drewN ?_ _) | (with_reducible refine Kd.C_drew ?_)));(case side4=>exact (Kd.R_reads' b1.out).2.1);rintro e q9 ⟨rfl,hb⟩;replace b8:=rB b8 hb;replace a5:=rB a5 hb;replace a8:=rB a8 hb;replace b1:=rB b1 hb;replace a4:=kB a4 hb;replace HB:=bB HB hb;(try clear hb)))
    repeat (go_quiet (first | (go_at_call 33;(with_reducible refine (numnahref07_Same.calls d4 _ _ b9 _ _ b7 true _ ?side1 ?side2 ?side3 ?side4 g7.out).mono ?_);(case side1=>repeat (first | exact (Kd.R_reads' a8.out).2.2 | (with_reducible refine Kd.C_alloc ?_ _) | (with_reducible refine Kd.C_drewN ?_ _) | (with_reducible refine Kd.C_drew ?_)));(case side2=>exact (Kd.R_reads' a8.out).2.1);(case side3=>repeat (first | exact (Kd.R_reads' b1.out).2.2 | (with_reducible refine Kd.C_alloc ?_ _) | (with_reducible refine Kd.C_drewN ?_ _) | (with_reducible refine Kd.C_drew ?_)));(case side4=>exact (Kd.R_reads' b1.out).2.1);rintro e w' ⟨rfl,⟨nd,rfl⟩⟩;(try first | exact ⟨rfl,_,World.drewN_drewN _ _ _⟩ | exact ⟨rfl,_,Eq.trans (World.drewN_drewN _ _ _) (congrArg (World.drewN _) (Nat.add_assoc _ _ _))⟩)) | (go_at_call 37;(with_reducible refine (shares_Right.calls d4 a6 _ _ b0 a9 _ _ b7 d6 _ ?side1 ?side2 ?side3 ?side4 o6.out).mono ?_);(case side1=>repeat (first | exact (Kd.R_reads' b8.out).2.2 | (with_reducible refine Kd.C_alloc ?_ _) | (with_reducible refine Kd.C_drewN ?_ _) | (with_reducible refine Kd.C_drew ?_)));(case side2=>exact (Kd.R_reads' b8.out).2.1);(case side3=>repeat (first | exact (Kd.R_reads' b1.out).2.2 | (with_reducible refine Kd.C_alloc ?_ _) | (with_reducible refine Kd.C_drewN ?_ _) | (with_reducible refine Kd.C_drew ?_)));(case side4=>exact (Kd.R_reads' b1.out).2.1);rintro e q9 ⟨rfl,hb⟩;replace b8:=rB b8 hb;replace a5:=rB a5 hb;replace a8:=rB a8 hb;replace b1:=rB b1 hb;replace a4:=kB a4 hb;replace HB:=bB HB hb;(try clear hb)));try go_wp2_with (first | (go_at_call 33;(with_reducible refine (numnahref07_Same.calls d4 _ _ b9 _ _ b7 true _ ?side1 ?side2 ?side3 ?side4 g7.out).mono ?_);(case side1=>repeat (first | exact (Kd.R_reads' a8.out).2.2 | (with_reducible refine Kd.C_alloc ?_ _) | (with_reducible refine Kd.C_drewN ?_ _) | (with_reducible refine Kd.C_drew ?_)));(case side2=>exact (Kd.R_reads' a8.out).2.1);(case side3=>repeat (first | exact (Kd.R_reads' b1.out).2.2 | (with_reducible refine Kd.C_alloc ?_ _) | (with_reducible refine Kd.C_drewN ?_ _) | (with_reducible refine Kd.C_drew ?_)));(case side4=>exact (Kd.R_reads' b1.out).2.1);rintro e w' ⟨rfl,⟨nd,rfl⟩⟩;(try first | exact ⟨rfl,_,World.drewN_drewN _ _ _⟩ | exact ⟨rfl,_,Eq.trans (World.drewN_drewN _ _ _) (congrArg (World.drewN _) (Nat.add_assoc _ _ _))⟩)) | (go_at_call 37;(with_reducible refine (shares_Right.calls d4 a6 _ _ b0 a9 _ _ b7 d6 _ ?side1 ?side2 ?side3 ?side4 o6.out).mono ?_);(case side1=>repeat (first | exact (Kd.R_reads' b8.out).2.2 | (with_reducible refine Kd.C_alloc ?_ _) | (with_reducible refine Kd.C_drewN ?_ _) | (with_reducible refine Kd.C_drew ?_)));(case side2=>exact (Kd.R_reads' b8.out).2.1);(case side3=>repeat (first | exact (Kd.R_reads' b1.out).2.2 | (with_reducible refine Kd.C_alloc ?_ _) | (with_reducible refine Kd.C_drewN ?_ _) | (with_reducible refine Kd.C_drew ?_)));(case side4=>exact (Kd.R_reads' b1.out).2.1);rintro e q9 ⟨rfl,hb⟩;replace b8:=rB b8 hb;replace a5:=rB a5 hb;replace a8:=rB a8 hb;replace b1:=rB b1 hb;replace a4:=kB a4 hb;replace HB:=bB HB hb;(try clear hb))))
    go_meet
    case rel=>exact ⟨_,((d6 != 0)),(by first | rfl | (simp;done) | (simp [*];done)),H',⟨by have:=n8.out;first | omega | exact Nat.le_refl _⟩,⟨by (with_reducible repeat (first | apply Kd.R_alloc | apply Kd.R_drewN | apply Kd.R_drew));exact Kd.R_mono a5.out (fun _ hk=>hk.2)⟩,⟨by (with_reducible repeat (first | apply Kd.R_alloc | apply Kd.R_drewN | apply Kd.R_drew));exact Kd.R_mono b1.out (fun _ hk=>hk.1.2)⟩,⟨by (with_reducible repeat (first | refine blk_drewN ?_ _ | refine blk_drew ?_ | refine blk_alloc ?_ _));exact a4.out⟩,⟨bl HB⟩⟩
   case rest =>
    clear h5
    obtain ⟨kq,d7,rfl,HA,t0,a5,b6,a4,HB⟩:=hcut
    cases kq with
    | zero=>exact absurd HA.out (by simp [numnahlaw07_SharesAwards.j1])
    | succ d5 =>
     have H:=HA.out
     clear HA
     simp only [numnahlaw07_SharesAwards.j1] at H
     by_cases n0:d7 = true
     ·subst n0
      rw [if_pos rfl] at H
      exact absurd ((Option.some.inj H).trans HRT.out) (by decide)
     replace n0:=Bool.eq_false_iff.mpr n0
     subst n0
     rw [if_neg (show ¬ (false = true) by decide)] at H
     replace H:=Option.bind_eq_some_iff.mp H
     obtain ⟨g4,l9,H⟩:=H
     replace H:(if g4 = true then (if b3 = 0 then ((numnahlaw07_awake.f d5).bind fun d8=>(some d8)) else (some false)) else (if b3 = 10 then ((numnahlaw07_awake.f d5).bind fun d9=>(some d9)) else (some false))) = some r:=H
     have i1:=A_ l9
     clear l9
     by_cases n1:g4 = true
     ·subst n1
      rw [if_pos rfl] at H
      by_cases h7:b3 = 0
      case neg =>
       rw [if_neg h7] at H
       have m0:(b3 == 0) = false:=beq_eq_false_iff_ne.mpr h7
       have m1:(b3 != 0) = true:=bne_iff_ne.mpr h7
       exact absurd ((Option.some.inj H).trans HRT.out) (by decide)
      rw [if_pos h7] at H
      have m0:(b3 == 0) = true:=beq_iff_eq.mpr h7
      have m1:(b3 != 0) = false:=bne_eq_false_iff_eq.mpr h7
      clear h7
      replace H:=Option.bind_eq_some_iff.mp H
      obtain ⟨d8,m2,H⟩:=H
      replace H:(some d8) = some r:=H
      have o9:=A_ m2
      clear m2
      obtain rfl:=Option.some.inj H
      obtain ⟨t1,t2,p0⟩:=Kd.R_slice b6.out
      subst p0
      go_wp2_with (first | (go_at_call 33;(with_reducible refine (numnahref07_Same.calls d5 _ _ b2 _ _ b7 true _ ?side1 ?side2 ?side3 ?side4 i1.out).mono ?_);(case side1=>repeat (first | exact (Kd.R_reads' a5.out).2.2 | (with_reducible refine Kd.C_alloc ?_ _) | (with_reducible refine Kd.C_drewN ?_ _) | (with_reducible refine Kd.C_drew ?_)));(case side2=>exact (Kd.R_reads' a5.out).2.1);(case side3=>repeat (first | exact (Kd.R_reads' b6.out).2.2 | (with_reducible refine Kd.C_alloc ?_ _) | (with_reducible refine Kd.C_drewN ?_ _) | (with_reducible refine Kd.C_drew ?_)));(case side4=>exact (Kd.R_reads' b6.out).2.1);rintro e w' ⟨rfl,⟨nd,rfl⟩⟩;(try first | exact ⟨rfl,_,World.drewN_drewN _ _ _⟩ | exact ⟨rfl,_,Eq.trans (World.drewN_drewN _ _ _) (congrArg (World.drewN _) (Nat.add_assoc _ _ _))⟩)) | (go_at_call 22;(with_reducible refine (numnahlaw07_awake.calls d5  d8 _ o9.out).mono ?_);rintro e r0 ⟨rfl,hb⟩;replace a5:=rB a5 hb;replace b6:=rB b6 hb;replace a4:=kB a4 hb;replace HB:=bB HB hb;(try clear hb)))
      repeat (go_quiet (first | (go_at_call 33;(with_reducible refine (numnahref07_Same.calls d5 _ _ b2 _ _ b7 true _ ?side1 ?side2 ?side3 ?side4 i1.out).mono ?_);(case side1=>repeat (first | exact (Kd.R_reads' a5.out).2.2 | (with_reducible refine Kd.C_alloc ?_ _) | (with_reducible refine Kd.C_drewN ?_ _) | (with_reducible refine Kd.C_drew ?_)));(case side2=>exact (Kd.R_reads' a5.out).2.1);(case side3=>repeat (first | exact (Kd.R_reads' b6.out).2.2 | (with_reducible refine Kd.C_alloc ?_ _) | (with_reducible refine Kd.C_drewN ?_ _) | (with_reducible refine Kd.C_drew ?_)));(case side4=>exact (Kd.R_reads' b6.out).2.1);rintro e w' ⟨rfl,⟨nd,rfl⟩⟩;(try first | exact ⟨rfl,_,World.drewN_drewN _ _ _⟩ | exact ⟨rfl,_,Eq.trans (World.drewN_drewN _ _ _) (congrArg (World.drewN _) (Nat.add_assoc _ _ _))⟩)) | (go_at_call 22;(with_reducible refine (numnahlaw07_awake.calls d5  d8 _ o9.out).mono ?_);rintro e r0 ⟨rfl,hb⟩;replace a5:=rB a5 hb;replace b6:=rB b6 hb;replace a4:=kB a4 hb;replace HB:=bB HB hb;(try clear hb)));try go_wp2_with (first | (go_at_call 33;(with_reducible refine (numnahref07_Same.calls d5 _ _ b2 _ _ b7 true _ ?side1 ?side2 ?side3 ?side4 i1.out).mono ?_);(case side1=>repeat (first | exact (Kd.R_reads' a5.out).2.2 | (with_reducible refine Kd.C_alloc ?_ _) | (with_reducible refine Kd.C_drewN ?_ _) | (with_reducible refine Kd.C_drew ?_)));(case side2=>exact (Kd.R_reads' a5.out).2.1);(case side3=>repeat (first | exact (Kd.R_reads' b6.out).2.2 | (with_reducible refine Kd.C_alloc ?_ _) | (with_reducible refine Kd.C_drewN ?_ _) | (with_reducible refine Kd.C_drew ?_)));(case side4=>exact (Kd.R_reads' b6.out).2.1);rintro e w' ⟨rfl,⟨nd,rfl⟩⟩;(try first | exact ⟨rfl,_,World.drewN_drewN _ _ _⟩ | exact ⟨rfl,_,Eq.trans (World.drewN_drewN _ _ _) (congrArg (World.drewN _) (Nat.add_assoc _ _ _))⟩)) | (go_at_call 22;(with_reducible refine (numnahlaw07_awake.calls d5  d8 _ o9.out).mono ?_);rintro e r0 ⟨rfl,hb⟩;replace a5:=rB a5 hb;replace b6:=rB b6 hb;replace a4:=kB a4 hb;replace HB:=bB HB hb;(try clear hb))))
      go_ret
      exact ⟨by first | rfl | (simp [errW_none,errW_some] <;> rfl) | (simp [*,errW_none,errW_some] <;> rfl),bl HB⟩
     replace n1:=Bool.eq_false_iff.mpr n1
     subst n1
     rw [if_neg (show ¬ (false = true) by decide)] at H
     by_cases h8:b3 = 10
     case neg =>
      rw [if_neg h8] at H
      have m3:(b3 == 10) = false:=beq_eq_false_iff_ne.mpr h8
      have m4:(b3 != 10) = true:=bne_iff_ne.mpr h8
      exact absurd ((Option.some.inj H).trans HRT.out) (by decide)
     rw [if_pos h8] at H
     have m3:(b3 == 10) = true:=beq_iff_eq.mpr h8
     have m4:(b3 != 10) = false:=bne_eq_false_iff_eq.mpr h8
     clear h8
     replace H:=Option.bind_eq_some_iff.mp H
     obtain ⟨d9,m5,H⟩:=H
     replace H:(some d9) = some r:=H
     have p1:=A_ m5
     clear m5
     obtain rfl:=Option.some.inj H
     obtain ⟨t3,t4,p2⟩:=Kd.R_slice b6.out
     subst p2
     go_wp2_with (first | (go_at_call 33;(with_reducible refine (numnahref07_Same.calls d5 _ _ b2 _ _ b7 false _ ?side1 ?side2 ?side3 ?side4 i1.out).mono ?_);(case side1=>repeat (first | exact (Kd.R_reads' a5.out).2.2 | (with_reducible refine Kd.C_alloc ?_ _) | (with_reducible refine Kd.C_drewN ?_ _) | (with_reducible refine Kd.C_drew ?_)));(case side2=>exact (Kd.R_reads' a5.out).2.1);(case side3=>repeat (first | exact (Kd.R_reads' b6.out).2.2 | (with_reducible refine Kd.C_alloc ?_ _) | (with_reducible refine Kd.C_drewN ?_ _) | (with_reducible refine Kd.C_drew ?_)));(case side4=>exact (Kd.R_reads' b6.out).2.1);rintro e w' ⟨rfl,⟨nd,rfl⟩⟩;(try first | exact ⟨rfl,_,World.drewN_drewN _ _ _⟩ | exact ⟨rfl,_,Eq.trans (World.drewN_drewN _ _ _) (congrArg (World.drewN _) (Nat.add_assoc _ _ _))⟩)) | (go_at_call 22;(with_reducible refine (numnahlaw07_awake.calls d5  d9 _ p1.out).mono ?_);rintro e r1 ⟨rfl,hb⟩;replace a5:=rB a5 hb;replace b6:=rB b6 hb;replace a4:=kB a4 hb;replace HB:=bB HB hb;(try clear hb)))
     repeat (go_quiet (first | (go_at_call 33;(with_reducible refine (numnahref07_Same.calls d5 _ _ b2 _ _ b7 false _ ?side1 ?side2 ?side3 ?side4 i1.out).mono ?_);(case side1=>repeat (first | exact (Kd.R_reads' a5.out).2.2 | (with_reducible refine Kd.C_alloc ?_ _) | (with_reducible refine Kd.C_drewN ?_ _) | (with_reducible refine Kd.C_drew ?_)));(case side2=>exact (Kd.R_reads' a5.out).2.1);(case side3=>repeat (first | exact (Kd.R_reads' b6.out).2.2 | (with_reducible refine Kd.C_alloc ?_ _) | (with_reducible refine Kd.C_drewN ?_ _) | (with_reducible refine Kd.C_drew ?_)));(case side4=>exact (Kd.R_reads' b6.out).2.1);rintro e w' ⟨rfl,⟨nd,rfl⟩⟩;(try first | exact ⟨rfl,_,World.drewN_drewN _ _ _⟩ | exact ⟨rfl,_,Eq.trans (World.drewN_drewN _ _ _) (congrArg (World.drewN _) (Nat.add_assoc _ _ _))⟩)) | (go_at_call 22;(with_reducible refine (numnahlaw07_awake.calls d5  d9 _ p1.out).mono ?_);rintro e r1 ⟨rfl,hb⟩;replace a5:=rB a5 hb;replace b6:=rB b6 hb;replace a4:=kB a4 hb;replace HB:=bB HB hb;(try clear hb)));try go_wp2_with (first | (go_at_call 33;(with_reducible refine (numnahref07_Same.calls d5 _ _ b2 _ _ b7 false _ ?side1 ?side2 ?side3 ?side4 i1.out).mono ?_);(case side1=>repeat (first | exact (Kd.R_reads' a5.out).2.2 | (with_reducible refine Kd.C_alloc ?_ _) | (with_reducible refine Kd.C_drewN ?_ _) | (with_reducible refine Kd.C_drew ?_)));(case side2=>exact (Kd.R_reads' a5.out).2.1);(case side3=>repeat (first | exact (Kd.R_reads' b6.out).2.2 | (with_reducible refine Kd.C_alloc ?_ _) | (with_reducible refine Kd.C_drewN ?_ _) | (with_reducible refine Kd.C_drew ?_)));(case side4=>exact (Kd.R_reads' b6.out).2.1);rintro e w' ⟨rfl,⟨nd,rfl⟩⟩;(try first | exact ⟨rfl,_,World.drewN_drewN _ _ _⟩ | exact ⟨rfl,_,Eq.trans (World.drewN_drewN _ _ _) (congrArg (World.drewN _) (Nat.add_assoc _ _ _))⟩)) | (go_at_call 22;(with_reducible refine (numnahlaw07_awake.calls d5  d9 _ p1.out).mono ?_);rintro e r1 ⟨rfl,hb⟩;replace a5:=rB a5 hb;replace b6:=rB b6 hb;replace a4:=kB a4 hb;replace HB:=bB HB hb;(try clear hb))))
     go_ret
     exact ⟨by first | rfl | (simp [errW_none,errW_some] <;> rfl) | (simp [*,errW_none,errW_some] <;> rfl),bl HB⟩
end Go.Proofs.Ytjohcjfmlhihbaa.G
set_option linter.unusedSectionVars false
namespace Go.Proofs.Ytjohcjfmlhihbaa.P
open Go Go.RowKit Go.Proofs.Ytjohcjfmlhihbaa.G
open Go.Proofs.YtjohcjfmlhihbaaW.PrintWords Go.Proofs.YtjohcjfmlhihbaaW.PrintMore
theorem list_f (l:List Int):numnahlaw07_list.f l = some (l.take 11):=by
 unfold numnahlaw07_list.f
 rw [mn11,if_pos (by omega),if_pos (by omega),Int.toNat_natCast]
 simp only [Option.bind_some,List.nil_append,List.length_nil]
 rw [if_pos (by rw [List.length_take];omega)]
 congr 1
 by_cases h:l.length ≤ 11
 ·rw [List.take_of_length_le (by omega),List.take_of_length_le h]
 ·rw [show min l.length 11 = 11 by omega]
theorem slEq_l0 {a b:List S23} (hl:a.length = b.length) (hs:a.length ≤ 1000000):∀ (d i:Nat),i + d = a.length → a.take i = b.take i → Ev (fun k=>api_Frac_74.l0 k a b (a.length:Int) (i:Int)) (decide (a = b)):=by
 intro d
 induction d with
 | zero =>
  intro i hi ht
  rw [List.take_of_length_le (by omega),List.take_of_length_le (by omega)] at ht
  rw [decide_eq_true ht]
  refine Ev.step (f:=fun _=>some true) (fun k=>?_) (Ev.now _)
  rw [api_Frac_74.l0,if_neg (by omega)]
 | succ d ih =>
  intro i hi ht
  have ha:i < a.length:=by omega
  have hb:i < b.length:=by omega
  by_cases e:a[i] = b[i]
  ·refine Ev.step (fun k=>?_) (ih (i + 1) (by omega) (by rw [List.take_succ_eq_append_getElem ha,List.take_succ_eq_append_getElem hb,ht,e]))
   rw [api_Frac_74.l0,if_pos (by omega),if_pos (by omega),if_pos (by omega),if_pos (by omega),rdT ha,rdT hb,e,if_neg (by simp),wrap_succ (by omega)]
  ·have hne:a ≠ b:=fun h=>e (by subst h;rfl)
   rw [decide_eq_false hne]
   refine Ev.step (f:=fun _=>some false) (fun k=>?_) (Ev.now _)
   rw [api_Frac_74.l0,if_pos (by omega),if_pos (by omega),if_pos (by omega),if_pos (by omega),rdT ha,rdT hb,if_pos]
   apply Classical.byContradiction
   intro h
   apply e
   simp only [Bool.or_eq_true,Bool.not_eq_true',beq_eq_false_iff_ne,not_or,Decidable.not_not,ne_eq] at h
   exact S23_ext h.1 h.2
theorem ev_slEq {a b:List S23} (hs:a.length ≤ 1000000):Ev (fun k=>api_Frac_74.f k a b) (decide (a = b)):=by
 unfold api_Frac_74.f
 by_cases hl:a.length = b.length
 ·refine Ev.congr (fun k=>if_pos (by omega)) ?_
  exact slEq_l0 hl hs a.length 0 (by omega) rfl
 ·rw [decide_eq_false (fun h=>hl (by rw [h]))]
  exact Ev.congr (fun k=>if_neg (by omega)) (Ev.now _)
theorem ev_Right_no {r E:Int} {l:List Int} {w:List S23} (ha:Ev (fun k=>shares_Award.f k r l E) ([],2)):Ev (fun k=>shares_Right.f k r l E w) 2:=by
 unfold shares_Right.f
 exact Ev.bind ha (Ev.now _)
theorem ev_Right {r E:Int} {l:List Int} {w x:List S23} (hx:x.length ≤ 1000000) (ha:Ev (fun k=>shares_Award.f k r l E) (x,0)):Ev (fun k=>shares_Right.f k r l E w) (if x = w then 0 else 10):=by
 unfold shares_Right.f
 refine Ev.bind ha ?_
 simp only [if_true]
 refine Ev.bind (ev_slEq hx) ?_
 by_cases h:x = w
 ·rw [if_pos h,decide_eq_true h];exact Ev.now _
 ·rw [if_neg h,decide_eq_false h];exact Ev.now _
theorem awards_pure (r E:Int) (l0:List Int) (w0:List S23):∃ k,numnahlaw07_SharesAwards.f k r E l0 w0 = some true:=by
 refine Ev.rounds ?_
 unfold numnahlaw07_SharesAwards.f
 simp only [list_f,fracs_f,Option.bind_some]
 obtain ⟨l,hl⟩:∃ l,l0.take 11 = l:=⟨_,rfl⟩
 obtain ⟨w,hw⟩:∃ w,w0.take 11 = w:=⟨_,rfl⟩
 have hll:l.length ≤ 11:=by rw [← hl,List.length_take];omega
 have hwl:w.length ≤ 11:=by rw [← hw,List.length_take];omega
 rw [hl,hw]
 have hf:H.fitL l:=by unfold H.fitL;omega
 have bad:Ev (fun k=>numnahlaw07_SharesAwards.j0 k r E l w [] 2 2 true) true:=by
  refine Ev.step (f:=fun k=>(numnahlaw07_awake.f k).bind fun t=>some t) (fun k=>?_) (Ev.bind ev_awake (Ev.now _))
  rw [numnahlaw07_SharesAwards.j0,if_pos rfl,if_pos (by simp),if_pos rfl,if_pos rfl]
 by_cases hr:0 ≤ r ∧ r ≤ 4
 ·obtain ⟨n,rfl⟩:∃ n:Nat,r = (n:Int):=⟨r.toNat,by omega⟩
  have hrc:=ev_rclaims l E
  cases hc:clB l E with
  | false =>
   have ha:=ev_Award_no hf hc (n:Int)
   rw [hc] at hrc
   refine Ev.bind ha (Ev.bind (ev_Right_no ha) ?_)
   refine Ev.congr (fun k=>if_neg (by omega)) (Ev.congr (fun k=>if_neg (by omega)) (Ev.bind hrc ?_))
   exact bad
  | true =>
   have hcl:=of_decide_eq_true hc
   obtain ⟨x,hx,ex,er⟩:=award_one hcl.1 hcl.2.1 hcl.2.2 (r:=n) (by omega)
   have lx:=hx.len
   rw [cl_length] at lx
   have hxl:(encL x).length ≤ 1000000:=by rw [encL_length];omega
   rw [hc] at hrc
   refine Ev.bind ex (Ev.bind (ev_Right hxl ex) ?_)
   refine Ev.congr (fun k=>if_neg (by omega)) (Ev.congr (fun k=>if_neg (by omega)) (Ev.bind hrc ?_))
   have s1:=ev_same (a:=encL x) (b:=encL x) hxl
   rw [decide_eq_true rfl] at s1
   have s2:=ev_same (a:=w) (b:=encL x) (by omega)
   have r1:=ev_Right (w:=encL x) hxl ex
   rw [if_pos rfl] at r1
   have j1:Ev (fun k=>numnahlaw07_SharesAwards.j1 k w (if encL x = w then 0 else 10) (encL x) false) true:=by
    obtain ⟨K1,e1⟩:=s2
    obtain ⟨K2,e2⟩:=ev_awake
    refine ⟨K1 + K2 + 1,fun k hk=>?_⟩
    obtain ⟨m,rfl⟩:∃ m,k = m + 1:=⟨k - 1,by omega⟩
    have f1:=e1 m (by omega)
    have f2:numnahlaw07_awake.f m = some true:=e2 m (by omega)
    show numnahlaw07_SharesAwards.j1 (m + 1) _ _ _ _ = _
    rw [numnahlaw07_SharesAwards.j1,if_neg (by decide)]
    simp only [f1,Option.bind_some]
    by_cases hxw:w = encL x
    ·rw [decide_eq_true hxw,if_pos rfl,if_pos (show encL x = w from hxw.symm),if_pos rfl,f2];rfl
    ·rw [decide_eq_false hxw,if_neg (by decide),if_neg (show ¬ encL x = w from fun e=>hxw e.symm),if_pos rfl,f2];rfl
   obtain ⟨K1,e1⟩:=er
   obtain ⟨K2,e2⟩:=s1
   obtain ⟨K3,e3⟩:=r1
   obtain ⟨K4,e4⟩:=j1
   refine ⟨K1 + K2 + K3 + K4 + 1,fun k hk=>?_⟩
   obtain ⟨m,rfl⟩:∃ m,k = m + 1:=⟨k - 1,by omega⟩
   have f1:=e1 m (by omega)
   have f2:=e2 m (by omega)
   have f3:=e3 m (by omega)
   have f4:=e4 m (by omega)
   show numnahlaw07_SharesAwards.j0 (m + 1) _ _ _ _ _ _ _ _ = _
   rw [numnahlaw07_SharesAwards.j0,if_neg (by decide)]
   simp only [f1,f2,f3,Option.bind_some,if_true]
   exact f4
 ·have ha:=ev_Award_bad hf E hr
  refine Ev.bind ha (Ev.bind (ev_Right_no ha) ?_)
  by_cases h0:r < 0
  ·exact Ev.congr (fun k=>if_pos h0) bad
  ·exact Ev.congr (fun k=>if_neg h0) (Ev.congr (fun k=>if_pos (by omega)) bad)
end Go.Proofs.Ytjohcjfmlhihbaa.P

/- Several texts, joined. -/
import Derived.KernelRfl
import Derived.Test.YtjohcjfmlhihbaaQTalmud1
set_option linter.unusedVariables false
set_option linter.unusedSimpArgs false
namespace Go.Proofs.Ytjohcjfmlhihbaa.P
open Go Go.RowKit Go.Proofs.Ytjohcjfmlhihbaa.G
open Go.Proofs.YtjohcjfmlhihbaaW.PrintWords Go.Proofs.YtjohcjfmlhihbaaW.PrintMore
theorem min_small {q:List Rat} (hq:∀ c ∈ q,OkC c) (hl:q.length ≤ 10) {E L:Rat} (h0:0 ≤ E) (hE:E.den ∣ 2) (ht:tot (q.map fun c=>min c L) = E):∀ c ∈ q,Sm 20000 20 (min c L):=by
 intro c hc
 obtain ⟨m,hm1,hm2,hd⟩:=IsEq.den (l:=q) (E:=E) ⟨L,rfl,ht⟩ (D:=2) (by omega) (fun c hc=>(hq c hc).den) hE (min c L) (List.mem_map.2 ⟨c,hc,rfl⟩)
 have hL:=level_pos (List.ne_nil_of_mem hc) (fun c=>min c L) L (fun c _=>by grind) (by rw [ht];exact h0)
 have hd2:(min c L).den ≤ 20:=Nat.le_trans (Nat.le_of_dvd (by omega) hd) (by omega)
 have h1:=(hq c hc).lo
 have h2:=(hq c hc).hi
 exact ⟨Nat.le_trans (num_abs (B:=1000) (by grind) (by grind) hd2) (by decide),hd2⟩
theorem half_cl (l:List Int):tot ((cl l).map (· / 2)) = (sI l:Rat) / 2:=by
 have:=half_tot (cl l)
 rw [tot_cl] at this
 exact this
set_option linter.unusedSectionVars false
section
variable {l:List Int} (h:IsCl l) {E:Int} (h0:0 ≤ E) (h1:E ≤ sI l)
include h h0 h1
omit h0 h1 in
theorem sI_cl:0 ≤ sI l ∧ sI l ≤ 10000:=by
 have:=sI_bound h.mem
 have:=h.ten
 omega
theorem E_le:(E:Rat) ≤ tot (cl l):=by rw [tot_cl];exact int_rat_le.2 h1
omit h h1 in
theorem E_ge:(0:Rat) ≤ (E:Rat):=by have:=int_rat_le.2 h0;simpa using this
omit h h0 h1 in
theorem E_den (E:Int):(E:Rat).den ∣ 2:=by rw [whole_den];exact Nat.one_dvd _
theorem ev_awards:∃ x,IsRule 1 (cl l) (E:Rat) x ∧ Ev (fun k=>shares_claims_awards.f k l E) (encL x):=by
 obtain ⟨x,⟨L,rfl,ht⟩,hx⟩:=ev_equal (cl_okC h) (by rw [cl_length];exact h.ten) (E_ge h0) (E_le h h0 h1) (E_den E)
 refine ⟨_,⟨fun c=>min c L,⟨L,rfl⟩,rfl,ht⟩,?_⟩
 unfold shares_claims_awards.f
 refine Ev.bind (ev_whole h E) ?_
 simp only [shares_whole.f,Option.bind_some]
 rw [whole_num,whole_den] at hx
 exact Ev.bind hx (Ev.now _)
theorem ev_losses:∃ x,IsRule 2 (cl l) (E:Rat) x ∧ Ev (fun k=>shares_claims_losses.f k l E) (encL x):=by
 have hs:=sI_cl h
 have e:((sI l - E:Int):Rat) = tot (cl l) - (E:Rat):=by rw [tot_cl];push_cast;rfl
 have hd:(0:Rat) ≤ ((sI l - E:Int):Rat):=E_ge (by omega)
 have hge:=E_ge h0
 obtain ⟨x,⟨L,rfl,ht⟩,hx⟩:=ev_equal (cl_okC h) (by rw [cl_length];exact h.ten) hd (by rw [e];grind) (E_den _)
 have hsm:=min_small (cl_okC h) (by rw [cl_length];exact h.ten) hd (E_den _) ht
 refine ⟨_,⟨fun c=>c - min c L,⟨L,rfl⟩,rfl,?_⟩,?_⟩
 ·have:=tot_sub (fun c=>c) (fun c=>min c L) (cl l)
  rw [List.map_id'] at this
  rw [this,ht,e];grind
 ·unfold shares_claims_losses.f
  refine Ev.bind (ev_whole h E) (Ev.bind (ev_total h.mem (by have:=h.ten;omega)) ?_)
  rw [wrap_id (by omega) (by omega)]
  simp only [shares_whole.f,Option.bind_some]
  rw [whole_num,whole_den] at hx
  refine Ev.bind hx ?_
  exact losses_l0 h (g:=fun c=>min c L) (fun n _ hn=>hsm _ (List.mem_map.2 ⟨n,hn,rfl⟩)) l.length 0 (by omega)
omit h h0 h1 in
theorem map_half (L:Rat):((cl l).map (· / 2)).map (fun c=>min c L) = (cl l).map fun c=>min (c / 2) L:=by rw [List.map_map];rfl
theorem ev_low (hlow:2 * E ≤ sI l):∃ L,tot ((cl l).map fun c=>min (c / 2) L) = (E:Rat) ∧ Ev (fun k=>shares_equal.f k (encL ((cl l).map (· / 2))) E 1) (encL ((cl l).map fun c=>min (c / 2) L)):=by
 have hlen:((cl l).map (· / 2)).length ≤ 10:=by rw [List.length_map,cl_length];exact h.ten
 have hle:(E:Rat) ≤ tot ((cl l).map (· / 2)):=by
  rw [half_cl]
  have:((2 * E:Int):Rat) ≤ (sI l:Rat):=int_rat_le.2 hlow
  push_cast at this
  grind
 obtain ⟨x,⟨L,rfl,ht⟩,hx⟩:=ev_equal (cl_half_okC h) hlen (E_ge h0) hle (E_den E)
 rw [map_half] at ht hx
 rw [whole_num,whole_den] at hx
 exact ⟨L,ht,hx⟩
theorem low_cond (hlow:2 * E ≤ sI l):2 * (E:Rat) ≤ tot (cl l):=by
 rw [tot_cl]
 have:((2 * E:Int):Rat) ≤ (sI l:Rat):=int_rat_le.2 hlow
 push_cast at this
 exact this
theorem high_cond (hlow:¬ 2 * E ≤ sI l):tot (cl l) < 2 * (E:Rat):=by
 rw [tot_cl]
 have:((sI l:Int):Rat) < ((2 * E:Int):Rat):=Rat.intCast_lt_intCast.2 (by omega)
 push_cast at this
 exact this
theorem ev_talmud:∃ x,IsRule 3 (cl l) (E:Rat) x ∧ Ev (fun k=>shares_claims_talmud.f k l E) (encL x):=by
 have hs:=sI_cl h
 have htot:=ev_total h.mem (by have:=h.ten;omega)
 have hge:=E_ge h0
 have hle:=E_le h h0 h1
 unfold shares_claims_talmud.f
 by_cases hlow:2 * E ≤ sI l
 ·obtain ⟨L,ht,hx⟩:=ev_low h h0 h1 hlow
  refine ⟨_,⟨fun c=>min (c / 2) L,.inl ⟨low_cond h h0 h1 hlow,L,rfl⟩,rfl,ht⟩,?_⟩
  refine Ev.bind htot ?_
  rw [wrap_id (by omega) (by omega)]
  refine Ev.congr (fun k=>if_pos hlow) ?_
  refine Ev.bind (ev_halves h E) ?_
  simp only [shares_whole.f,Option.bind_some]
  exact Ev.bind hx (Ev.now _)
 ·have hlen:((cl l).map (· / 2)).length ≤ 10:=by rw [List.length_map,cl_length];exact h.ten
  have hd:(0:Rat) ≤ ((sI l - E:Int):Rat):=E_ge (by omega)
  have e:((sI l - E:Int):Rat) = tot (cl l) - (E:Rat):=by rw [tot_cl];push_cast;rfl
  have hhi:=high_cond h h0 h1 hlow
  have hh:=half_cl l
  rw [← tot_cl] at hh
  obtain ⟨x,⟨L,rfl,ht⟩,hx⟩:=ev_equal (cl_half_okC h) hlen hd (by rw [e,hh];grind) (E_den _)
  have hsm:=min_small (cl_half_okC h) hlen hd (E_den _) ht
  rw [map_half] at ht hx
  refine ⟨_,⟨fun c=>c - min (c / 2) L,.inr ⟨hhi,L,rfl⟩,rfl,?_⟩,?_⟩
  ·have:=tot_sub (fun c=>c) (fun c=>min (c / 2) L) (cl l)
   rw [List.map_id'] at this
   rw [this,ht,e];grind
  ·refine Ev.bind htot ?_
   rw [wrap_id (x:=2 * E) (by omega) (by omega)]
   refine Ev.congr (fun k=>if_neg hlow) ?_
   refine Ev.bind (ev_halves h E) (Ev.bind htot ?_)
   rw [wrap_id (by omega) (by omega)]
   simp only [shares_whole.f,Option.bind_some]
   rw [whole_num,whole_den] at hx
   refine Ev.bind hx ?_
   exact talmud_l0 h (g:=fun c=>min (c / 2) L) (fun n _ hn=>hsm _ (List.mem_map.2 ⟨(n:Rat),List.mem_map.2 ⟨n,hn,rfl⟩,rfl⟩)) l.length 0 (by omega)
theorem ev_piniles:∃ x,IsRule 4 (cl l) (E:Rat) x ∧ Ev (fun k=>shares_claims_piniles.f k l E) (encL x):=by
 have hs:=sI_cl h
 have htot:=ev_total h.mem (by have:=h.ten;omega)
 have hge:=E_ge h0
 have hle:=E_le h h0 h1
 unfold shares_claims_piniles.f
 by_cases hlow:2 * E ≤ sI l
 ·obtain ⟨L,ht,hx⟩:=ev_low h h0 h1 hlow
  refine ⟨_,⟨fun c=>min (c / 2) L,.inl ⟨low_cond h h0 h1 hlow,L,rfl⟩,rfl,ht⟩,?_⟩
  refine Ev.bind htot ?_
  rw [wrap_id (by omega) (by omega)]
  refine Ev.congr (fun k=>if_pos hlow) ?_
  refine Ev.bind (ev_halves h E) ?_
  simp only [shares_whole.f,Option.bind_some]
  exact Ev.bind hx (Ev.now _)
 ·have hlen:((cl l).map (· / 2)).length ≤ 10:=by rw [List.length_map,cl_length];exact h.ten
  have hhi:=high_cond h h0 h1 hlow
  have hh:=half_cl l
  have hq:mkRat (sI l) 2 = (sI l:Rat) / 2:=mk_frac _ _
  have hden:((E:Rat) - (sI l:Rat) / 2).den ∣ 2:=sub_den_dvd' (E_den E) (by rw [← hq];exact den_dvd _ (by omega)) (by omega)
  rw [tot_cl] at hhi hle
  have hd:(0:Rat) ≤ (E:Rat) - (sI l:Rat) / 2:=by grind
  obtain ⟨x,⟨L,rfl,ht⟩,hx⟩:=ev_equal (cl_half_okC h) hlen hd (by rw [hh];grind) hden
  have hsm:=min_small (cl_half_okC h) hlen hd hden ht
  refine ⟨((cl l).map (· / 2)).map fun c=>c + min c L,⟨fun c=>c / 2 + min (c / 2) L,.inr ⟨by rw [tot_cl];exact hhi,L,rfl⟩,by rw [List.map_map];rfl,?_⟩,?_⟩
  ·have:=tot_add (fun c=>c) (fun c=>min c L) ((cl l).map (· / 2))
   rw [List.map_id'] at this
   rw [this,ht,hh];grind
  ·refine Ev.bind htot ?_
   rw [wrap_id (x:=2 * E) (by omega) (by omega)]
   refine Ev.congr (fun k=>if_neg hlow) ?_
   refine Ev.bind (ev_halves h E) ?_
   simp only [shares_whole.f,Option.bind_some]
   refine Ev.bind htot (Ev.bind (ev_frac (sI l) 2 (by omega) (by omega) (by omega)) ?_)
   have hm:=ev_minus (p:=(E:Rat)) (q:=(sI l:Rat) / 2) ((Sm.int (n:=E) (A:=10000) (by omega)).fits (Sm.int (n:=sI l) (A:=10000) (by omega)).half (by decide) (by decide))
   rw [whole_num,whole_den] at hm
   rw [hq]
   refine Ev.bind hm (Ev.bind hx (Ev.bind (ev_halves h E) ?_))
   rw [encL_length]
   exact piniles_l0 (cl_half_okC h) hlen (g:=fun c=>min c L) hsm ((cl l).map (· / 2)).length 0 (by omega)
theorem ev_prop:∃ x,IsRule 0 (cl l) (E:Rat) x ∧ Ev (fun k=>shares_claims_proportional.f k l E) (encL x):=by
 have hs:=sI_cl h
 have htot:=ev_total h.mem (by have:=h.ten;omega)
 obtain ⟨a,ha⟩:∃ a:Nat,mx 1 (sI l) = (a:Int):=⟨(mx 1 (sI l)).toNat,by unfold mx;split <;> omega⟩
 have ha1:0 < a ∧ a ≤ 10000:=by unfold mx at ha;split at ha <;> omega
 have hev:=prop_l0 h h0 (by omega) ha1.1 ha1.2 l.length 0 (by omega)
 refine ⟨(cl l).map fun c=>c * (E:Rat) / (a:Rat),⟨fun c=>if 0 < tot (cl l) then c * (E:Rat) / tot (cl l) else 0,rfl,?_,?_⟩,?_⟩
 ·refine List.map_congr_left fun c hc=>?_
  obtain ⟨n,hn,rfl⟩:=List.mem_map.1 hc
  by_cases hp:0 < sI l
  ·have hp':0 < tot (cl l):=by rw [tot_cl];exact Rat.intCast_pos.2 hp
   have e:(a:Rat) = tot (cl l):=by
    rw [tot_cl]
    have:(a:Int) = sI l:=by unfold mx at ha;split at ha <;> omega
    rw [← this];push_cast;rfl
   rw [if_pos hp',e]
  ·have hp':¬ 0 < tot (cl l):=by rw [tot_cl];exact fun k=>hp (Rat.intCast_pos.1 k)
   rw [if_neg hp']
   have hE:E = 0:=by omega
   subst hE
   have:((0:Int):Rat) = 0:=rfl
   rw [this,Rat.mul_zero,Rat.div_def,Rat.zero_mul]
 ·by_cases hp:0 < sI l
  ·have e:(a:Rat) = tot (cl l):=by
    rw [tot_cl]
    have:(a:Int) = sI l:=by unfold mx at ha;split at ha <;> omega
    rw [← this];push_cast;rfl
   have hp':0 < tot (cl l):=by rw [tot_cl];exact Rat.intCast_pos.2 hp
   have e2:((cl l).map fun c=>c * (E:Rat) / (a:Rat)) = (cl l).map fun c=>c * ((E:Rat) / (a:Rat)):=List.map_congr_left fun c _=>by
    rw [Rat.div_def,Rat.div_def,Rat.mul_assoc]
   rw [e2,tot_mul (fun c=>c),List.map_id',e,Rat.mul_comm]
   exact Rat.div_mul_cancel (by grind)
  ·have hE:E = 0:=by omega
   subst hE
   have e2:((cl l).map fun c=>c * ((0:Int):Rat) / (a:Rat)) = (cl l).map fun c=>c * 0:=List.map_congr_left fun c _=>by
    have:((0:Int):Rat) = 0:=rfl
    rw [this,Rat.mul_zero,Rat.div_def,Rat.zero_mul]
   rw [e2,tot_mul (fun c=>c),Rat.mul_zero]
   rfl
 ·unfold shares_claims_proportional.f
  refine Ev.bind htot ?_
  rw [ha]
  exact hev
theorem ev_Award {r:Nat} (hr:r ≤ 4):∃ x,IsRule r (cl l) (E:Rat) x ∧ Ev (fun k=>shares_Award.f k (r:Int) l E) (encL x,0):=by
 have hc:clB l E = true:=decide_eq_true ⟨h,h0,h1⟩
 have hf:H.fitL l:=by unfold H.fitL;have:=h.ten;omega
 have hn:=ev_newClaims hf E
 rw [hc] at hn
 unfold shares_Award.f
 obtain rfl | rfl | rfl | rfl | rfl:r = 0 ∨ r = 1 ∨ r = 2 ∨ r = 3 ∨ r = 4:=by omega
 ·obtain ⟨x,h1,h2⟩:=ev_prop h h0 h1
  exact ⟨x,h1,Ev.bind hn (Ev.bind h2 (Ev.now _))⟩
 ·obtain ⟨x,h1,h2⟩:=ev_awards h h0 h1
  exact ⟨x,h1,Ev.bind hn (Ev.bind h2 (Ev.now _))⟩
 ·obtain ⟨x,h1,h2⟩:=ev_losses h h0 h1
  exact ⟨x,h1,Ev.bind hn (Ev.bind h2 (Ev.now _))⟩
 ·obtain ⟨x,h1,h2⟩:=ev_talmud h h0 h1
  exact ⟨x,h1,Ev.bind hn (Ev.bind h2 (Ev.now _))⟩
 ·obtain ⟨x,h1,h2⟩:=ev_piniles h h0 h1
  exact ⟨x,h1,Ev.bind hn (Ev.bind h2 (Ev.now _))⟩
end
end Go.Proofs.Ytjohcjfmlhihbaa.P
set_option linter.unusedSectionVars false
namespace Go.Proofs.Ytjohcjfmlhihbaa.P
open Go Go.RowKit Go.Proofs.Ytjohcjfmlhihbaa.G
open Go.Proofs.YtjohcjfmlhihbaaW.PrintWords Go.Proofs.YtjohcjfmlhihbaaW.PrintMore
theorem awake_now:numnahlaw07_awake.f 60 = some true:=by kernel_rfl
theorem ev_awake:Ev (fun k=>numnahlaw07_awake.f k) true:=Ev.of (fun k=>numnahlaw07_awake.mono k) awake_now
end Go.Proofs.Ytjohcjfmlhihbaa.P
namespace Go.Proofs.Ytjohcjfmlhihbaa.G
open Go.RowKit Go.Proofs.YtjohcjfmlhihbaaW.PrintWords Go.Proofs.YtjohcjfmlhihbaaW.PrintLast Go.Proofs.YtjohcjfmlhihbaaW.PrintMore
set_option maxHeartbeats 8000000
set_option maxRecDepth 100000
attribute [local go_sem] cond_true cond_false fld23_0 fld23_1 fld45_0 fld45_1 fld109_0 fld109_1 fld94_0 fld94_1 max2_int min2_int max_two min_two max_three min_three max_four min_four   -- for this text's walks alone
def numnahlaw07_mod.f (a0:Int) (a1:Int):Option (Int):=if (IntKind.u64.wrap (a1)) = 0 then (none) else (some (wrap64 (Int.tmod (IntKind.u64.wrap (a0)) (IntKind.u64.wrap (a1)))))
theorem numnahlaw07_mod.calls (a0:Int) (a1:Int) (r:Int) (w:World) (h:numnahlaw07_mod.f a0 a1 = some r) :
  Calls Try.prog 29 #[.int .i64 a0,.int .i64 a1] w fun e w'=>e = .returned (.int .i64 r) ∧ Drawn0 w w':=by
 have H:(if (IntKind.u64.wrap (a1)) = 0 then (none) else (some (wrap64 (Int.tmod (IntKind.u64.wrap (a0)) (IntKind.u64.wrap (a1)))))) = some r:=h
 clear h
 by_cases c3:(IntKind.u64.wrap (a1)) = 0
 ·rw [if_pos c3] at H
  exact absurd H (by simp)
 rw [if_neg c3] at H
 have b0:((IntKind.u64.wrap (a1)) == 0) = false:=beq_eq_false_iff_ne.mpr c3
 have b1:((IntKind.u64.wrap (a1)) != 0) = true:=bne_iff_ne.mpr c3
 obtain rfl:=Option.some.inj H
 go_enter Try.func29,Try.ntmps29
 go_wp2
 go_ret
 exact ⟨by first | rfl | (simp;done) | (simp [*];done),by repeat (first | exact Drawn0.refl _ | apply Drawn0.step)⟩
end Go.Proofs.Ytjohcjfmlhihbaa.G
namespace Go.Proofs.Ytjohcjfmlhihbaa.G
open Go.RowKit Go.Proofs.YtjohcjfmlhihbaaW.PrintWords Go.Proofs.YtjohcjfmlhihbaaW.PrintLast Go.Proofs.YtjohcjfmlhihbaaW.PrintMore
set_option maxHeartbeats 8000000
set_option maxRecDepth 100000
attribute [local go_sem] cond_true cond_false fld23_0 fld23_1 fld45_0 fld45_1 fld109_0 fld109_1 fld94_0 fld94_1 max2_int min2_int max_two min_two max_three min_three max_four min_four
def numnahlaw07_tame.l0:Nat → List Int → Int → List Int → Int → Int → Option (List Int × Int)
 | 0,_,_,_,_,_=>none
 | k + 1,x0,x1,x6,x7,x8=>if x8 < (x0.length:Int) then (if x8 < 10 then (if 0 ≤ x8 then ((numnahlaw07_mod.f (rd x0 x8) 1001).bind fun b6=>(if x6.length < 17592186044416 then ((some (x6 ++ [b6]:List Int)).bind fun b3=>(if x8 < (b3.length:Int) then (numnahlaw07_tame.l0 k x0 x1 b3 (wrap64 (x7 + (rd b3 x8))) (wrap64 (x8 + 1))) else (none))) else (none))) else (none)) else (if (x6.length:Int) = 0 then (some ((([0]:List Int)),0)) else ((numnahlaw07_mod.f x1 (wrap64 (x7 + 1))).bind fun d3=>(some (x6,d3))))) else (if (x6.length:Int) = 0 then (some ((([0]:List Int)),0)) else ((numnahlaw07_mod.f x1 (wrap64 (x7 + 1))).bind fun d4=>(some (x6,d4))))
def numnahlaw07_tame.f (k:Nat) (l0:List Int) (a1:Int):Option (List Int × Int):=numnahlaw07_tame.l0 k l0 a1 (([]:List Int)) 0 0
theorem numnahlaw07_tame.mono_l:∀ k,(∀ y0 y1 y2 y3 y4,LeO (numnahlaw07_tame.l0 k y0 y1 y2 y3 y4) (numnahlaw07_tame.l0 (k + 1) y0 y1 y2 y3 y4))
 | 0=>fun _ _ _ _ _ r h=>by simp [numnahlaw07_tame.l0] at h
 | k + 1=>by
  have h6:=numnahlaw07_tame.mono_l k
  intro y0 y1 y2 y3 y4
  unfold numnahlaw07_tame.l0
  repeat' first
  | (with_reducible first | exact h6 _ _ _ _ _ | exact LeO.refl _ | exact LeO.none _ | refine LeO.ite ?_ ?_ | refine LeO.bind ?_ (fun _=>?_))
  | exact LeO.none _ | refine LeO.ite ?_ ?_ | refine LeO.bind ?_ (fun _=>?_)
theorem numnahlaw07_tame.mono:∀ a0 a1 k,LeO (numnahlaw07_tame.f k a0 a1) (numnahlaw07_tame.f (k + 1) a0 a1):=by
 intro a0 a1 k
 have h6:=numnahlaw07_tame.mono_l k
 unfold numnahlaw07_tame.f
 repeat' first
   | (with_reducible first | exact h6 _ _ _ _ _ | exact LeO.refl _ | exact LeO.none _ | refine LeO.ite ?_ ?_ | refine LeO.bind ?_ (fun _=>?_))
   | exact LeO.none _ | refine LeO.ite ?_ ?_ | refine LeO.bind ?_ (fun _=>?_)
theorem numnahlaw07_tame.calls (k:Nat) (A0:Option Addr) (c0:Nat) (l0:List Int) (a1:Int) (r1:List Int) (r2:Int) (w:World) (i8:Kd.C (Kd.int .i64) w A0 l0.length l0) (i9:l0.length ≤ c0) (h:numnahlaw07_tame.f k l0 a1 = some (r1,r2)) :
  Calls Try.prog 25 #[.slice A0 l0.length c0,.int .i64 a1] w fun e w'=>∃ j5:Value,e = .returned (.tuple #[j5,.int .i64 r2]) ∧ Kd.R (Kd.int .i64) 3 w' w.heap.size (fun _=>True) j5 r1 ∧ Below w.heap.size w w':=by
 have l9:=A_ i8
 have n9:=A_ i9
 clear i8 i9
 have HB:=A_ (Below.refl w.heap.size w)
 have H:(numnahlaw07_tame.l0 k l0 a1 (([]:List Int)) 0 0) = some (r1,r2):=h
 clear h
 obtain ⟨h7,b9⟩:∃ y_:List Int,y_ = (([]:List Int)):=⟨_,rfl⟩
 rw [← b9] at H
 have d5:=A_ b9
 clear b9
 have H':=A_ H
 clear H
 go_enter Try.func25,Try.ntmps25
 go_wp2_with (first | ((with_reducible refine gate_dst (N:=9) rfl ?_);refine Kd.R_lit (Kd.int .i64) _ 3 ?hg (N:=9) ?hd (xs:=([]:List Int)) (inner:=[]) (ok:=fun _=>True) (okp:=fun _=>True) ?hr ?hp (fun _ hk=>hk) trivial (Below.refl _ _) (Nat.le_refl _) (by simp) ?_;(case hd=>rfl);(case hg=>rfl);(case hr=>first | (go_simp;done) | (go_simp;rfl));(case hp=>exact (Reps.none _ _));intro m0 w3 e4 hb hg_ hnew_;clear hg_ hnew_;(first | rw [← d5.out] at e4 | (simp only [Int.reduceToNat] at e4;rw [← d5.out] at e4));have e5:=A_ (Kd.R_lower e4 (below_size (bl HB)));replace HB:=bB HB hb;clear hb e4))
 go_loopg [6,7,8] k (fun kq v6 v7 v8 w'=>∃ (b0:List Int) (b4:Int) (b1:Int),v7 = .int .i64 b4 ∧ v8 = .int .i64 b1 ∧ Aside0 (numnahlaw07_tame.l0 kq l0 a1 b0 b4 b1 = some (r1,r2)) ∧ Aside0 (kq ≤ k) ∧ Aside0 (Kd.R (Kd.int .i64) 3 w' w.heap.size (fun _=>True) v6 b0) ∧ Aside0 (Below w.heap.size w w'))
 case atStart=>exact ⟨(h7),(0),(0),(by first | rfl | (simp;done) | (simp [*];done)),(by first | rfl | (simp;done) | (simp [*];done)),H',⟨Nat.le_refl _⟩,⟨by (with_reducible repeat (first | apply Kd.R_alloc | apply Kd.R_drewN | apply Kd.R_drew));exact e5.out⟩,⟨bl HB⟩⟩
 case round =>
  clear H'
  obtain ⟨b0,b4,b1,rfl,rfl,HA,j7,b2,HB⟩:=hrel
  cases gk with
  | zero=>exact absurd HA.out (by simp [numnahlaw07_tame.l0])
  | succ k1 =>
   have H:=HA.out
   clear HA
   simp only [numnahlaw07_tame.l0] at H
   by_cases c5:b1 < (l0.length:Int)
   case neg =>
    rw [if_neg c5] at H
    have h8:=decide_eq_false c5
    clear c5
    by_cases d6:(b0.length:Int) = 0
    case neg =>
     rw [if_neg d6] at H
     have e6:((b0.length:Int) == 0) = false:=beq_eq_false_iff_ne.mpr d6
     have e7:((b0.length:Int) != 0) = true:=bne_iff_ne.mpr d6
     have j8:¬ (b0 = []):=fun h_=>d6 (by rw [h_];rfl)
     replace H:=Option.bind_eq_some_iff.mp H
     obtain ⟨d4,e8,H⟩:=H
     replace H:(some (b0,d4)) = some (r1,r2):=H
     have m1:=A_ e8
     clear e8
     simp only [Option.some.injEq,Prod.mk.injEq] at H
     obtain ⟨rfl,rfl⟩:=H
     obtain ⟨m2,m3,h9⟩:=Kd.R_slice b2.out
     subst h9
     go_wp2_with (first | ((with_reducible refine gate_callee (f:=29) rfl ?_);refine gL (some 42) Try.func29 #[.int .i64 a1,.int .i64 (wrap64 (b4 + 1))] ?_;(with_reducible refine (numnahlaw07_mod.calls a1 (wrap64 (b4 + 1)) d4 _ m1.out).mono ?_);rintro e w' ⟨rfl,⟨nd,rfl⟩⟩;refine ⟨_,rfl,?_⟩))
     go_ret2
     exact ⟨_,by first | rfl | (simp [errW_none,errW_some] <;> rfl) | (simp [*,errW_none,errW_some] <;> rfl),by (with_reducible repeat (first | apply Kd.R_alloc | apply Kd.R_drewN | apply Kd.R_drew));exact b2.out,bl HB⟩
    rw [if_pos d6] at H
    have e6:((b0.length:Int) == 0) = true:=beq_iff_eq.mpr d6
    have e7:((b0.length:Int) != 0) = false:=bne_eq_false_iff_eq.mpr d6
    clear d6
    obtain ⟨m4,c1⟩:∃ y_:List Int,y_ = (([0]:List Int)):=⟨_,rfl⟩
    rw [← c1] at H
    have d7:=A_ c1
    clear c1
    simp only [Option.some.injEq,Prod.mk.injEq] at H
    obtain ⟨rfl,rfl⟩:=H
    obtain ⟨m5,m6,i0⟩:=Kd.R_slice b2.out
    subst i0
    go_wp2_with (first | ((with_reducible refine gate_dst (N:=37) rfl ?_);refine Kd.R_lit (Kd.int .i64) _ 3 ?hg (N:=37) ?hd (xs:=([0]:List Int)) (inner:=[.int .i64 0]) (ok:=fun _=>True) (okp:=fun _=>True) ?hr ?hp (fun _ hk=>hk) trivial (Below.refl _ _) (Nat.le_refl _) (by simp) ?_;(case hd=>rfl);(case hg=>rfl);(case hr=>first | (go_simp;done) | (go_simp;rfl));(case hp=>exact (Reps.one (show Kd.M (Kd.int .i64) _ _ _ 0 [.int .i64 0] from rfl) (Reps.none _ _)));intro m7 o0 b7 hb hg_ hnew_;clear hg_ hnew_;(first | rw [← d7.out] at b7 | (simp only [Int.reduceToNat] at b7;rw [← d7.out] at b7));have e9:=A_ (Kd.R_lower (Kd.R_new' b7 (Kd.R_lt (rs b2))) (below_size (bl HB)));replace b2:=A_ (Kd.R_elder' (rs b2) (Kd.R_base b7) hb);replace HB:=bB HB hb;clear hb b7))
    go_ret2
    exact ⟨_,by first | rfl | (simp [errW_none,errW_some] <;> rfl) | (simp [*,errW_none,errW_some] <;> rfl),by (with_reducible repeat (first | apply Kd.R_alloc | apply Kd.R_drewN | apply Kd.R_drew));exact Kd.R_mono e9.out (fun _ hk=>trivial),bl HB⟩
   rw [if_pos c5] at H
   have h8:=decide_eq_true c5
   clear c5
   by_cases c6:b1 < 10
   case neg =>
    rw [if_neg c6] at H
    have i1:=decide_eq_false c6
    clear c6
    by_cases d8:(b0.length:Int) = 0
    case neg =>
     rw [if_neg d8] at H
     have h0:((b0.length:Int) == 0) = false:=beq_eq_false_iff_ne.mpr d8
     have h1:((b0.length:Int) != 0) = true:=bne_iff_ne.mpr d8
     have j9:¬ (b0 = []):=fun h_=>d8 (by rw [h_];rfl)
     replace H:=Option.bind_eq_some_iff.mp H
     obtain ⟨d3,h2,H⟩:=H
     replace H:(some (b0,d3)) = some (r1,r2):=H
     have m8:=A_ h2
     clear h2
     simp only [Option.some.injEq,Prod.mk.injEq] at H
     obtain ⟨rfl,rfl⟩:=H
     obtain ⟨m9,n0,i2⟩:=Kd.R_slice b2.out
     subst i2
     go_wp2_with (first | ((with_reducible refine gate_callee (f:=29) rfl ?_);refine gL (some 42) Try.func29 #[.int .i64 a1,.int .i64 (wrap64 (b4 + 1))] ?_;(with_reducible refine (numnahlaw07_mod.calls a1 (wrap64 (b4 + 1)) d3 _ m8.out).mono ?_);rintro e w' ⟨rfl,⟨nd,rfl⟩⟩;refine ⟨_,rfl,?_⟩))
     go_ret2
     exact ⟨_,by first | rfl | (simp [errW_none,errW_some] <;> rfl) | (simp [*,errW_none,errW_some] <;> rfl),by (with_reducible repeat (first | apply Kd.R_alloc | apply Kd.R_drewN | apply Kd.R_drew));exact b2.out,bl HB⟩
    rw [if_pos d8] at H
    have h0:((b0.length:Int) == 0) = true:=beq_iff_eq.mpr d8
    have h1:((b0.length:Int) != 0) = false:=bne_eq_false_iff_eq.mpr d8
    clear d8
    obtain ⟨n1,d0⟩:∃ y_:List Int,y_ = (([0]:List Int)):=⟨_,rfl⟩
    rw [← d0] at H
    have d9:=A_ d0
    clear d0
    simp only [Option.some.injEq,Prod.mk.injEq] at H
    obtain ⟨rfl,rfl⟩:=H
    obtain ⟨n2,n3,i3⟩:=Kd.R_slice b2.out
    subst i3
    go_wp2_with (first | ((with_reducible refine gate_dst (N:=37) rfl ?_);refine Kd.R_lit (Kd.int .i64) _ 3 ?hg (N:=37) ?hd (xs:=([0]:List Int)) (inner:=[.int .i64 0]) (ok:=fun _=>True) (okp:=fun _=>True) ?hr ?hp (fun _ hk=>hk) trivial (Below.refl _ _) (Nat.le_refl _) (by simp) ?_;(case hd=>rfl);(case hg=>rfl);(case hr=>first | (go_simp;done) | (go_simp;rfl));(case hp=>exact (Reps.one (show Kd.M (Kd.int .i64) _ _ _ 0 [.int .i64 0] from rfl) (Reps.none _ _)));intro n4 o1 b8 hb hg_ hnew_;clear hg_ hnew_;(first | rw [← d9.out] at b8 | (simp only [Int.reduceToNat] at b8;rw [← d9.out] at b8));have h3:=A_ (Kd.R_lower (Kd.R_new' b8 (Kd.R_lt (rs b2))) (below_size (bl HB)));replace b2:=A_ (Kd.R_elder' (rs b2) (Kd.R_base b8) hb);replace HB:=bB HB hb;clear hb b8))
    go_ret2
    exact ⟨_,by first | rfl | (simp [errW_none,errW_some] <;> rfl) | (simp [*,errW_none,errW_some] <;> rfl),by (with_reducible repeat (first | apply Kd.R_alloc | apply Kd.R_drewN | apply Kd.R_drew));exact Kd.R_mono h3.out (fun _ hk=>trivial),bl HB⟩
   rw [if_pos c6] at H
   have i1:=decide_eq_true c6
   clear c6
   replace H:=gd H
   obtain ⟨c7,H⟩:=H
   have n5:=decide_eq_true c7
   clear c7
   replace H:=Option.bind_eq_some_iff.mp H
   obtain ⟨b6,l5,H⟩:=H
   replace H:(if b0.length < 17592186044416 then ((some (b0 ++ [b6]:List Int)).bind fun b3=>(if b1 < (b3.length:Int) then (numnahlaw07_tame.l0 k1 l0 a1 b3 (wrap64 (b4 + (rd b3 b1))) (wrap64 (b1 + 1))) else (none))) else (none)) = some (r1,r2):=H
   have A8:=A_ l5
   clear l5
   replace H:=gd H
   obtain ⟨c9,H⟩:=H
   have i4:=A_ c9
   clear c9
   obtain ⟨b3,d1⟩:∃ y_:List Int,y_ = (b0 ++ [b6]):=⟨_,rfl⟩
   rw [← d1] at H
   have h4:=A_ d1
   clear d1
   replace H:=gd H
   obtain ⟨c10,H⟩:=H
   have l6:=decide_eq_true c10
   clear c10
   have H':=A_ H
   clear H
   have e0:0 ≤ (b1:Int):=of_decide_eq_true (by first | (with_reducible assumption) | assumption)
   have e1:b1 < (l0.length:Int):=of_decide_eq_true (by first | (with_reducible assumption) | assumption)
   obtain ⟨l7,i5,b5⟩:=Kd.at_int l9.out b1 e0 e1
   cases i5
   replace b5:=(HB.out.cell (World.block_lt_of_cell? w _ b5)).trans b5
   replace e0:=eq_true e0
   replace e1:=eq_true e1
   go_wp2_with (first | ((with_reducible refine gate_callee (f:=29) rfl ?_);refine gL (some 25) Try.func29 #[.int .i64 (rd l0 b1),.int .i64 1001] ?_;(with_reducible refine (numnahlaw07_mod.calls (rd l0 b1) 1001 b6 _ A8.out).mono ?_);rintro e w' ⟨rfl,⟨nd,rfl⟩⟩;refine ⟨_,rfl,?_⟩) | ((with_reducible refine gate_builtin (b:=.append) (xs:=#[.tmp 20,.tmp 26]) rfl ?_);at_builtin;refine Kd.R_append (Kd.int .i64) (w0:=w) w.heap.size rfl (.tmp 20) (.tmp 26) 28 3 (.int .i64 0) 8 rfl Try.underlying28 info3 rfl (by decide) (by omega) u6 b0 b6 [.int .i64 b6] (fun _=>True) (fun _=>False) rfl rfl ?aP (fun _ hk=>hk.elim) ?aF ?aO ?aB ?aS ?aL ?_;(case aP=>exact rfl);(case aB=>exact (bl HB));(case aF=>exact (fun _ _=>trivial));(case aO=>exact (rs b2));(case aS=>exact (below_size (bl HB)));(case aL=>have:=i4.out;omega);intro n6 o2 ho hb hg hat;rw [← h4.out] at ho;have d2:=A_ ho;replace HB:=A_ hb;clear b2;clear ho hb hg hat;obtain ⟨n7,n8,i6⟩:=Kd.R_slice d2.out;subst i6;have e2:0 ≤ (b1:Int):=of_decide_eq_true (by first | (with_reducible assumption) | assumption);have e3:b1 < (b3.length:Int):=of_decide_eq_true (by first | (with_reducible assumption) | assumption);obtain ⟨l8,i7,h5⟩:=Kd.at_int (Kd.R_reads' d2.out).2.2 b1 e2 e3;cases i7;replace e2:=eq_true e2;replace e3:=eq_true e3))
   go_roundg k1
   case measure=>have:=j7.out;omega
   case rel=>exact ⟨(b3),(wrap64 (b4 + (rd b3 b1))),(wrap64 (b1 + 1)),(by first | rfl | (simp;done) | (simp [*];done)),(by first | rfl | (simp;done) | (simp [*];done)),H',⟨by have:=j7.out;omega⟩,⟨by (with_reducible repeat (first | apply Kd.R_alloc | apply Kd.R_drewN | apply Kd.R_drew));exact d2.out⟩,⟨bl HB⟩⟩
end Go.Proofs.Ytjohcjfmlhihbaa.G
namespace Go.Proofs.Ytjohcjfmlhihbaa.G
open Go.RowKit Go.Proofs.YtjohcjfmlhihbaaW.PrintWords Go.Proofs.YtjohcjfmlhihbaaW.PrintLast Go.Proofs.YtjohcjfmlhihbaaW.PrintMore
set_option maxHeartbeats 8000000
set_option maxRecDepth 100000
attribute [local go_sem] cond_true cond_false fld23_0 fld23_1 fld45_0 fld45_1 fld109_0 fld109_1 fld94_0 fld94_1 max2_int min2_int max_two min_two max_three min_three max_four min_four   -- for this text's walks alone
def numnahlaw07_fit.l0:Nat → List (S23) → Int → Option (Bool)
 | 0,_,_=>none
 | k + 1,x0,x3=>if x3 < (x0.length:Int) then (if 0 ≤ x3 then ((numnahref07_Within.f k ((rd_T23 x0 x3).f0) ((rd_T23 x0 x3).f1) 0 1073741824 1073741824).bind fun b5=>(if b5 = true then (numnahlaw07_fit.l0 k x0 (wrap64 (x3 + 1))) else (some false))) else (none)) else (some true)
def numnahlaw07_fit.f (k:Nat) (l0:List (S23)):Option (Bool):=numnahlaw07_fit.l0 k l0 0
theorem numnahlaw07_fit.mono_l:∀ k,(∀ y0 y1,LeO (numnahlaw07_fit.l0 k y0 y1) (numnahlaw07_fit.l0 (k + 1) y0 y1))
 | 0=>fun _ _ r h=>by simp [numnahlaw07_fit.l0] at h
 | k + 1=>by
  have b7:=numnahlaw07_fit.mono_l k
  intro y0 y1
  unfold numnahlaw07_fit.l0
  repeat' first
  | (with_reducible exact b7 _ _)
  | (with_reducible exact numnahref07_Within.mono _ _ _ _ _ _)
  | (with_reducible exact LeO.refl _)
  | (with_reducible exact LeO.none _)
  | (with_reducible refine LeO.ite ?_ ?_)
  | (with_reducible refine LeO.bind ?_ (fun _=>?_))
  | exact b7 _ _
  | exact numnahref07_Within.mono _ _ _ _ _ _
  | exact LeO.none _
  | refine LeO.ite ?_ ?_
  | refine LeO.bind ?_ (fun _=>?_)
theorem numnahlaw07_fit.mono:∀ a0 k,LeO (numnahlaw07_fit.f k a0) (numnahlaw07_fit.f (k + 1) a0):=by
 intro a0 k
 have b7:=numnahlaw07_fit.mono_l k
 unfold numnahlaw07_fit.f
 repeat' first
   | (with_reducible exact b7 _ _)
   | (with_reducible exact numnahref07_Within.mono _ _ _ _ _ _)
   | (with_reducible exact LeO.refl _)
   | (with_reducible exact LeO.none _)
   | (with_reducible refine LeO.ite ?_ ?_)
   | (with_reducible refine LeO.bind ?_ (fun _=>?_))
   | exact b7 _ _
   | exact numnahref07_Within.mono _ _ _ _ _ _
   | exact LeO.none _
   | refine LeO.ite ?_ ?_
   | refine LeO.bind ?_ (fun _=>?_)
theorem numnahlaw07_fit.calls (k:Nat) (A0:Option Addr) (c0:Nat) (l0:List (S23)) (r:Bool) (w:World) (d0:Kd.C k23 w A0 l0.length l0) (d1:l0.length ≤ c0) (h:numnahlaw07_fit.f k l0 = some r) :
  Calls Try.prog 27 #[.slice A0 l0.length c0] w fun e w'=>e = .returned (.bool r) ∧ Below w.heap.size w w':=by
 have d5:=Try.underlying23
 have d2:=Aside0.mk d0
 have d7:=Aside0.mk d1
 clear d0 d1
 have HB:=Aside0.mk (Below.refl w.heap.size w)
 have H:(numnahlaw07_fit.l0 k l0 0) = some r:=h
 clear h
 have H':=Aside0.mk H
 clear H
 go_enter Try.func27,Try.ntmps27
 go_wp2
 go_loopg [3] k (fun kq v3 w'=>∃ (b0:Int),v3 = .int .i64 b0 ∧ Aside0 (numnahlaw07_fit.l0 kq l0 b0 = some r) ∧ Aside0 (kq ≤ k) ∧ Aside0 (Below w.heap.size w w'))
 case atStart=>exact ⟨(0),(by first | rfl | (simp;done) | (simp [*];done)),H',⟨Nat.le_refl _⟩,⟨by repeat (first | (with_reducible first | exact HB.out | apply below_alloc | apply pw_below_drewN | apply below_drew1) | exact HB.out)⟩⟩
 case round =>
  clear H'
  obtain ⟨b0,rfl,HA,d3,HB⟩:=hrel
  cases gk with
  | zero=>exact absurd HA.out (by simp [numnahlaw07_fit.l0])
  | succ k1 =>
   have H:=HA.out
   clear HA
   simp only [numnahlaw07_fit.l0] at H
   by_cases c2:b0 < (l0.length:Int)
   case neg =>
    rw [if_neg c2] at H
    have c1:decide (b0 < (l0.length:Int)) = false:=decide_eq_false c2
    clear c2
    obtain rfl:=Option.some.inj H
    go_wp2
    go_ret
    exact ⟨by first | rfl | (simp [errW_none,errW_some] <;> rfl) | (simp [*,errW_none,errW_some] <;> rfl),by repeat (first | (with_reducible first | exact HB.out | apply below_alloc | apply pw_below_drewN | apply below_drew1) | exact HB.out)⟩
   rw [if_pos c2] at H
   have c1:decide (b0 < (l0.length:Int)) = true:=decide_eq_true c2
   clear c2
   by_cases c3:0 ≤ b0
   case neg =>
    rw [if_neg c3] at H
    exact absurd H (by simp)
   rw [if_pos c3] at H
   have d6:decide (0 ≤ b0) = true:=decide_eq_true c3
   clear c3
   replace H:=Option.bind_eq_some_iff.mp H
   obtain ⟨b5,d4,H⟩:=H
   replace H:(if b5 = true then (numnahlaw07_fit.l0 k1 l0 (wrap64 (b0 + 1))) else (some false)) = some r:=H
   have A4:=Aside0.mk d4
   clear d4
   by_cases c5:b5 = true
   case neg =>
    replace c5:=Bool.eq_false_iff.mpr c5
    subst c5
    have H1:(some false) = some r:=by rw [if_neg (show ¬ (false = true) by decide)] at H;exact H
    clear H
    have H:=H1
    clear H1
    obtain rfl:=Option.some.inj H
    have b3:0 ≤ (b0:Int):=of_decide_eq_true (by first | (with_reducible assumption) | assumption)
    have b4:b0 < (l0.length:Int):=of_decide_eq_true (by first | (with_reducible assumption) | assumption)
    obtain ⟨b8,b6,b1,b2⟩:=at_T23 d2.out b0 b3 b4
    cases b6
    replace b1:=(HB.out.cell (World.block_lt_of_cell? w _ b1)).trans b1
    replace b2:=(HB.out.cell (World.block_lt_of_cell? w _ b2)).trans b2
    replace b3:=eq_true b3
    replace b4:=eq_true b4
    go_wp2_with (first | ((with_reducible refine gate_callee (f:=69) rfl ?_);refine goesL_ (some 14) rfl rfl Try.func69 (by kernel_rfl) rfl #[.agg #[.int .i64 ((rd_T23 l0 b0).f0),.int .i64 ((rd_T23 l0 b0).f1)],.int .i64 0,.int .i64 1073741824,.int .i64 1073741824] rfl (by (try simp only [List.map_toArray,List.map_cons,List.map_nil]);first | done | rfl | (simp only [List.length_drop,List.length_take];rfl)) ?_;(with_reducible refine (numnahref07_Within.calls k1 ((rd_T23 l0 b0).f0) ((rd_T23 l0 b0).f1) 0 1073741824 1073741824 false _ A4.out).mono ?_);rintro e w7 ⟨rfl,hb⟩;refine ⟨_,rfl,?_⟩;have b9:=Aside0.mk (below_step (by repeat (first | (with_reducible first | exact HB.out | apply below_alloc | apply pw_below_drewN | apply below_drew1) | exact HB.out)) hb);clear HB;have HB:=b9;clear b9;(try clear hb)))
    go_ret
    exact ⟨by first | rfl | (simp [errW_none,errW_some] <;> rfl) | (simp [*,errW_none,errW_some] <;> rfl),by repeat (first | (with_reducible first | exact HB.out | apply below_alloc | apply pw_below_drewN | apply below_drew1) | exact HB.out)⟩
   subst c5
   have H1:(numnahlaw07_fit.l0 k1 l0 (wrap64 (b0 + 1))) = some r:=by rw [if_pos rfl] at H;exact H
   clear H
   have H:=H1
   clear H1
   have H':=Aside0.mk H
   clear H
   have b3:0 ≤ (b0:Int):=of_decide_eq_true (by first | (with_reducible assumption) | assumption)
   have b4:b0 < (l0.length:Int):=of_decide_eq_true (by first | (with_reducible assumption) | assumption)
   obtain ⟨b8,b6,b1,b2⟩:=at_T23 d2.out b0 b3 b4
   cases b6
   replace b1:=(HB.out.cell (World.block_lt_of_cell? w _ b1)).trans b1
   replace b2:=(HB.out.cell (World.block_lt_of_cell? w _ b2)).trans b2
   replace b3:=eq_true b3
   replace b4:=eq_true b4
   go_wp2_with (first | ((with_reducible refine gate_callee (f:=69) rfl ?_);refine goesL_ (some 14) rfl rfl Try.func69 (by kernel_rfl) rfl #[.agg #[.int .i64 ((rd_T23 l0 b0).f0),.int .i64 ((rd_T23 l0 b0).f1)],.int .i64 0,.int .i64 1073741824,.int .i64 1073741824] rfl (by (try simp only [List.map_toArray,List.map_cons,List.map_nil]);first | done | rfl | (simp only [List.length_drop,List.length_take];rfl)) ?_;(with_reducible refine (numnahref07_Within.calls k1 ((rd_T23 l0 b0).f0) ((rd_T23 l0 b0).f1) 0 1073741824 1073741824 true _ A4.out).mono ?_);rintro e w6 ⟨rfl,hb⟩;refine ⟨_,rfl,?_⟩;have b9:=Aside0.mk (below_step (by repeat (first | (with_reducible first | exact HB.out | apply below_alloc | apply pw_below_drewN | apply below_drew1) | exact HB.out)) hb);clear HB;have HB:=b9;clear b9;(try clear hb)))
   go_roundg k1
   case measure=>have:=d3.out;omega
   case rel=>exact ⟨(wrap64 (b0 + 1)),(by first | rfl | (simp;done) | (simp [*];done)),H',⟨by have:=d3.out;omega⟩,⟨by repeat (first | (with_reducible first | exact HB.out | apply below_alloc | apply pw_below_drewN | apply below_drew1) | exact HB.out)⟩⟩
end Go.Proofs.Ytjohcjfmlhihbaa.G
namespace Go.Proofs.Ytjohcjfmlhihbaa.G
open Go.RowKit Go.Proofs.YtjohcjfmlhihbaaW.PrintWords Go.Proofs.YtjohcjfmlhihbaaW.PrintLast Go.Proofs.YtjohcjfmlhihbaaW.PrintMore
attribute [local go_sem] fld23_0 fld23_1 fld45_0 fld45_1 fld109_0 fld109_1 fld94_0 fld94_1 max2_int min2_int max_two min_two max_three min_three max_four min_four   -- for this text's walks alone
set_option linter.unusedVariables false
set_option linter.unusedSimpArgs false
theorem eqA23 (d:Nat) (w:World) (x0 y0:Int) (x1 y1:Int) :
  (Op.equalIn (d + 2) 23 (.agg #[.int .i64 x0,.int .i64 x1]) (.agg #[.int .i64 y0,.int .i64 y1])).run Try.prog w = .ok (x0 == y0 && (x1 == y1)) w:=by
 refine eqA_of Try.underlying23 (by kernel_rfl) ?_
 refine eqf_cons (by rfl) (by go_simp;rfl) (by go_simp;rfl) (by go_simp) ?_
 exact eqf_last (by rfl) (by go_simp;rfl) (by go_simp;rfl) (by go_simp)
end Go.Proofs.Ytjohcjfmlhihbaa.G
namespace Go.Proofs.Ytjohcjfmlhihbaa.G
open Go.RowKit Go.Proofs.YtjohcjfmlhihbaaW.PrintWords Go.Proofs.YtjohcjfmlhihbaaW.PrintLast Go.Proofs.YtjohcjfmlhihbaaW.PrintMore
set_option maxHeartbeats 8000000
set_option maxRecDepth 100000
attribute [local go_sem] cond_true cond_false fld23_0 fld23_1 fld45_0 fld45_1 fld109_0 fld109_1 fld94_0 fld94_1 max2_int min2_int max_two min_two max_three min_three max_four min_four   -- for this text's walks alone
attribute [local go_sem high] eqA23
def numnahlaw07_fracs.f (l0:List (S23)):Option ((List (S23))):=if 0 ≤ (mn (l0.length:Int) 11) then (if (mn (l0.length:Int) 11) ≤ (l0.length:Int) then ((some (l0.take ((mn (l0.length:Int) 11):Int).toNat:List (S23))).bind fun b0=>(if ([]:List (S23)).length + b0.length < 8796093022208 then (some (([]:List (S23)) ++ b0)) else (none))) else (none)) else (none)
theorem numnahlaw07_fracs.calls (A0:Option Addr) (c0:Nat) (l0:List (S23)) (r:List (S23)) (w:World) (d6:Kd.C k23 w A0 l0.length l0) (d7:l0.length ≤ c0) (h:numnahlaw07_fracs.f l0 = some r) :
  Calls Try.prog 36 #[.slice A0 l0.length c0] w fun e w'=>∃ d8:Value,e = .returned (d8) ∧ Kd.R k23 23 w' w.heap.size (fun _=>True) d8 r ∧ Below w.heap.size w w':=by
 have e4:=Aside0.mk d6
 have e5:=Aside0.mk d7
 clear d6 d7
 have HB:=Aside0.mk (Below.refl w.heap.size w)
 have H:(if 0 ≤ (mn (l0.length:Int) 11) then (if (mn (l0.length:Int) 11) ≤ (l0.length:Int) then ((some (l0.take ((mn (l0.length:Int) 11):Int).toNat:List (S23))).bind fun b0=>(if ([]:List (S23)).length + b0.length < 8796093022208 then (some (([]:List (S23)) ++ b0)) else (none))) else (none)) else (none)) = some r:=h
 clear h
 obtain ⟨b1,b4⟩:∃ j_:Int,(mn (l0.length:Int) 11) = j_:=⟨_,rfl⟩
 replace H:(if 0 ≤ (b1) then (if (b1) ≤ (l0.length:Int) then ((some (l0.take ((b1):Int).toNat:List (S23))).bind fun b0=>(if ([]:List (S23)).length + b0.length < 8796093022208 then (some (([]:List (S23)) ++ b0)) else (none))) else (none)) else (none)) = some r:=by first | (rw [b4] at H;exact H) | (simp only [b4] at H ⊢;exact H)
 (try (have hji2h:b1 ≤ 11:=by (rw [← b4];unfold mn;(repeat' split) <;> omega)))
 (try (have hji2g:b1 ≤ 64:=by omega))
 (try (have hji2l:0 ≤ b1:=by (rw [← b4];unfold mn;(repeat' split) <;> omega)))
 (try (have hji2m:0 ≤ b1:=by omega))
 have d9:(if 11 < (l0.length:Int) then 11 else (l0.length:Int)) = b1:=b4
 by_cases c3:0 ≤ (b1)
 case neg =>
  rw [if_neg c3] at H
  exact absurd H (by simp)
 rw [if_pos c3] at H
 have e6:=eq_true c3
 have e7:decide (0 ≤ (b1)) = true:=decide_eq_true c3
 clear c3
 by_cases c4:(b1) ≤ (l0.length:Int)
 case neg =>
  rw [if_neg c4] at H
  exact absurd H (by simp)
 rw [if_pos c4] at H
 have e8:=eq_true c4
 have e9:decide ((b1) ≤ (l0.length:Int)) = true:=decide_eq_true c4
 clear c4
 obtain ⟨b0,b2⟩:∃ y_:List (S23),y_ = (l0.take ((b1):Int).toNat):=⟨_,rfl⟩
 replace H:(if ([]:List (S23)).length + b0.length < 8796093022208 then (some (([]:List (S23)) ++ b0)) else (none)) = some r:=by first | (rw [b2];with_reducible exact H) | (have b6:=(Option.bind_some _ _).symm.trans H;rw [b2];with_reducible exact b6) | (have b6:=(Option.bind_some _ _).symm.trans H;with_reducible exact b6) | with_reducible exact H | (rw [b2];exact H) | exact H
 have b5:=Aside0.mk b2
 clear b2
 by_cases c5:([]:List (S23)).length + b0.length < 8796093022208
 case neg =>
  rw [if_neg c5] at H
  exact absurd H (by simp)
 rw [if_pos c5] at H
 have d1:=Aside0.mk c5
 clear c5
 obtain ⟨d2,b3⟩:∃ y_:List (S23),y_ = (([]:List (S23)) ++ b0):=⟨_,rfl⟩
 replace H:(some d2) = some r:=by first | (rw [b3];with_reducible exact H) | (have b6:=(Option.bind_some _ _).symm.trans H;rw [b3];with_reducible exact b6) | (have b6:=(Option.bind_some _ _).symm.trans H;with_reducible exact b6) | with_reducible exact H | (rw [b3];exact H) | exact H
 have b7:=Aside0.mk b3
 clear b3
 obtain rfl:=Option.some.inj H
 have q6:((b1):Int) ≤ ((l0.length:Int):Int):=of_decide_eq_true (by first | (with_reducible assumption) | assumption)
 obtain ⟨h1,b8,_,d3,_⟩:=info_parts info23
 have hroom6:l0.length ≤ c0:=e5.out
 have e0:Kd.C k23 _ A0 l0.length l0:=e4.out
 have b9:=cut_to (P:=Try.prog) 35 23 .i64 Try.underlying35 b8 A0 l0.length c0 (b1) (of_decide_eq_true (by first | (with_reducible assumption) | assumption)) q6 hroom6
 have d4:=Kd.C_take (m:=((b1):Int).toNat) e0 (by omega)
 have d5:b0.length = ((b1):Int).toNat:=(by rw [b5.out,List.length_take];omega)
 rw [← b5.out] at d4
 rw [← d5] at b9
 have c1:=Aside0.mk d4
 have e1:=Aside0.mk (show b0.length ≤ c0 from by omega)
 clear d4 e0 hroom6 b8 d3
 have h2:=Aside0.mk d5
 clear d5
 replace q6:=eq_true q6
 go_enter Try.func36,Try.ntmps36
 go_wp2_with (first | ((with_reducible refine gate_builtin (b:=.append) (xs:=#[.tmp 4,.tmp 9]) rfl ?_);at_builtin;refine Kd.R_append_rows k23 (w0:=w) w.heap.size rfl (.tmp 4) (.tmp 9) 35 23 (.agg #[(.int .i64 0),(.int .i64 0)]) 16 rfl Try.underlying35 info23 rfl (by decide) (by omega) (.slice none 0 0) ([]:List (S23)) b0 _ _ _ (fun _=>True) (fun _=>False) rfl rfl ?aO ?aR (fun _ _ h=>h) (fun _ h=>h.elim) ?aF ?aB ?aS ?aL ?_;(case aR=>repeat (first | exact c1.out | (with_reducible refine Kd.C_alloc ?_ _) | (with_reducible refine Kd.C_drewN ?_ _) | (with_reducible refine Kd.C_drew ?_)));(case aB=>exact (by repeat (first | (with_reducible first | exact HB.out | apply below_alloc | apply pw_below_drewN | apply below_drew1) | exact HB.out)));(case aF=>exact (fun _ _=>trivial));(case aO=>exact ((Kd.R_nil _ _ _ _ (fun _=>True))));(case aS=>exact (below_size (by repeat (first | (with_reducible first | exact HB.out | apply below_alloc | apply pw_below_drewN | apply below_drew1) | exact HB.out))));(case aL=>have:=d1.out;omega);intro h0 w7 ho hb hg hat;rw [← b7.out] at ho;have e2:=Aside0.mk (hb);have e3:=Aside0.mk (ho);clear HB;have HB:=e2;have d0:=e3;clear e2 e3;clear ho hb hg hat))
 go_ret
 exact ⟨_,by first | rfl | (simp [errW_none,errW_some] <;> rfl) | (simp only [← b4];first | rfl | (simp [errW_none,errW_some] <;> rfl)) | (simp [*,errW_none,errW_some] <;> rfl),by (with_reducible repeat (first | apply Kd.R_alloc | apply Kd.R_drewN | apply Kd.R_drew));exact d0.out,by repeat (first | (with_reducible first | exact HB.out | apply below_alloc | apply pw_below_drewN | apply below_drew1) | exact HB.out)⟩
end Go.Proofs.Ytjohcjfmlhihbaa.G
set_option linter.unusedSectionVars false
namespace Go.Proofs.Ytjohcjfmlhihbaa.P
open Go Go.RowKit Go.Proofs.Ytjohcjfmlhihbaa.G
open Go.Proofs.YtjohcjfmlhihbaaW.PrintWords Go.Proofs.YtjohcjfmlhihbaaW.PrintMore
theorem S23_ext {a b:S23} (h0:a.f0 = b.f0) (h1:a.f1 = b.f1):a = b:=by cases a;cases b;simp_all
instance:DecidableEq S23:=fun a b=>decidable_of_iff (a.f0 = b.f0 ∧ a.f1 = b.f1) ⟨fun h=>S23_ext h.1 h.2,fun h=>by rw [h];exact ⟨rfl,rfl⟩⟩
theorem rdT {a:List S23} {i:Nat} (h:i < a.length):rd_T23 a (i:Int) = a[i]:=by unfold rd_T23;simp [h]
theorem mn11 {n:Nat}:mn (n:Int) 11 = ((min n 11:Nat):Int):=by unfold mn;split <;> omega
theorem fracs_f (l:List S23):numnahlaw07_fracs.f l = some (l.take 11):=by
 unfold numnahlaw07_fracs.f
 rw [mn11,if_pos (by omega),if_pos (by omega),Int.toNat_natCast]
 simp only [Option.bind_some,List.nil_append,List.length_nil]
 rw [if_pos (by rw [List.length_take];omega)]
 congr 1
 by_cases h:l.length ≤ 11
 ·rw [List.take_of_length_le (by omega),List.take_of_length_le h]
 ·rw [show min l.length 11 = 11 by omega]
theorem ev_within {q:Rat} (h1:q.num.natAbs < 9223372036854775808) (lo hi d:Int):Ev (fun k=>numnahref07_Within.f k q.num (q.den:Int) lo hi d) (decide ((q.den:Int) ≤ d ∧ lo ≤ q.num ∧ q.num ≤ hi)):=by
 unfold numnahref07_Within.f
 have hp:=den_pos q
 refine Ev.congr (fun k=>if_pos (by omega)) ?_
 by_cases a1:(q.den:Int) ≤ d
 ·refine Ev.congr (fun k=>if_pos a1) ?_
  by_cases a2:q.num ≥ lo
  ·refine Ev.congr (fun k=>if_pos a2) ?_
   by_cases a3:q.num ≤ hi
   ·refine Ev.congr (fun k=>if_pos a3) ?_
    rw [mx_abs h1,decide_eq_true (⟨a1,a2,a3⟩:_ ∧ _ ∧ _)]
    simp only [ref_gcd]
    refine Ev.bind (ev_gcd q.num.natAbs q.den) ?_
    rw [gcd_one q]
    exact Ev.now _
   ·rw [decide_eq_false (fun h=>a3 h.2.2)]
    exact Ev.congr (fun k=>if_neg a3) (Ev.now _)
  ·rw [decide_eq_false (fun h=>a2 h.2.1)]
   exact Ev.congr (fun k=>if_neg a2) (Ev.now _)
 ·rw [decide_eq_false (fun h=>a1 h.1)]
  exact Ev.congr (fun k=>if_neg a1) (Ev.now _)
theorem fit_l0 {x:List Rat} (hl:x.length ≤ 1000000) (hx:∀ q ∈ x,0 ≤ q ∧ Sm 1073741824 1073741824 q):∀ (d i:Nat),i + d = x.length → Ev (fun k=>numnahlaw07_fit.l0 k (encL x) (i:Int)) true:=by
 intro d
 induction d with
 | zero =>
  intro i hi
  refine Ev.step (f:=fun _=>some true) (fun k=>?_) (Ev.now _)
  rw [numnahlaw07_fit.l0,encL_length,if_neg (by omega)]
 | succ d ih =>
  intro i hi
  have hil:i < x.length:=by omega
  obtain ⟨q0,qs⟩:=hx _ (List.getElem_mem hil)
  have h1:=qs.num
  have h2:=qs.den
  have hw:=ev_within (q:=x[i]) (by omega) 0 1073741824 1073741824
  rw [decide_eq_true (⟨by omega,Rat.num_nonneg.2 q0,by omega⟩:_ ∧ _ ∧ _)] at hw
  obtain ⟨K1,e1⟩:=hw
  obtain ⟨K2,e2⟩:=ih (i + 1) (by omega)
  refine ⟨K1 + K2 + 1,fun k hk=>?_⟩
  obtain ⟨m,rfl⟩:∃ m,k = m + 1:=⟨k - 1,by omega⟩
  have f1:=e1 m (by omega)
  have f2:=e2 m (by omega)
  show numnahlaw07_fit.l0 (m + 1) _ _ = _
  rw [numnahlaw07_fit.l0,encL_length,if_pos (by omega),if_pos (by omega),rdE hil]
  simp only [encQ,f1,Option.bind_some,if_true]
  rw [wrap_succ (by omega)]
  exact f2
theorem ev_fit {x:List Rat} (hl:x.length ≤ 1000000) (hx:∀ q ∈ x,0 ≤ q ∧ Sm 1073741824 1073741824 q):Ev (fun k=>numnahlaw07_fit.f k (encL x)) true:=fit_l0 hl hx x.length 0 (by omega)
theorem mod_some (x:Int) {n:Int} (h0:0 < n) (h1:n ≤ 9223372036854775807):∃ m,0 ≤ m ∧ m < n ∧ numnahlaw07_mod.f x n = some m:=by
 unfold numnahlaw07_mod.f
 have e:IntKind.u64.wrap n = n:=by
  rw [show IntKind.u64.wrap n = n % 18446744073709551616 from by first | rfl | exact IntKind.wrap_u64 n | simp [IntKind.wrap]]
  omega
 obtain ⟨u,hu⟩:∃ u,IntKind.u64.wrap x = u:=⟨_,rfl⟩
 have hu0:0 ≤ u ∧ u ≤ 18446744073709551615:=by
  rw [← hu,show IntKind.u64.wrap x = x % 18446744073709551616 from by first | rfl | exact IntKind.wrap_u64 x | simp [IntKind.wrap]]
  omega
 rw [e,hu,if_neg (by omega),Int.tmod_eq_emod_of_nonneg hu0.1]
 have m0:=Int.emod_nonneg u (show n ≠ 0 by omega)
 have m1:=Int.emod_lt_of_pos u h0
 exact ⟨u % n,m0,m1,by rw [wrap_id (by omega) (by omega)]⟩
theorem tame_end {out:List Int} (ho:out.length ≤ 10) (hm:∀ x ∈ out,0 ≤ x ∧ x ≤ 1000) (e:Int):∃ l E,IsCl l ∧ 0 ≤ E ∧ E ≤ sI l ∧ (out.length ≠ 0 → l = out) ∧ (if (out.length:Int) = 0 then (some (([0]:List Int),(0:Int))) else (numnahlaw07_mod.f e (wrap64 (sI out + 1))).bind fun t=>(some (out,t))) = some (l,E):=by
 by_cases h0:out.length = 0
 ·exact ⟨[0],0,⟨by simp,by simp,fun x hx=>by rw [List.mem_singleton.1 hx];omega⟩,Int.le_refl _,by simp [sI],fun hne=>absurd h0 hne,by rw [if_pos (by omega)]⟩
 ·have hb:=sI_bound hm
  obtain ⟨m,h1,h2,h3⟩:=mod_some e (n:=sI out + 1) (by omega) (by omega)
  refine ⟨out,m,⟨by omega,ho,hm⟩,h1,by omega,fun _=>rfl,?_⟩
  rw [if_neg (by omega),wrap_id (by omega) (by omega),h3]
  rfl
theorem tame_l0 (l:List Int) (e:Int):∀ (d i:Nat) (out:List Int),i + d = 10 → i ≤ l.length → out.length = i → (∀ x ∈ out,0 ≤ x ∧ x ≤ 1000) → ∃ l' E,IsCl l' ∧ 0 ≤ E ∧ E ≤ sI l' ∧ (l.length ≠ 0 → l'.length = min l.length 10) ∧ Ev (fun k=>numnahlaw07_tame.l0 k l e out (sI out) (i:Int)) (l',E):=by
 intro d
 induction d with
 | zero =>
  intro i out hi hil0 ho hm
  obtain ⟨l',E,h1,h2,h3,h5,h4⟩:=tame_end (by omega) hm e
  refine ⟨l',E,h1,h2,h3,fun _=>by rw [h5 (by omega)];omega,Ev.step (f:=fun _=>some (l',E)) (fun k=>?_) (Ev.now _)⟩
  rw [numnahlaw07_tame.l0]
  by_cases hil:(i:Int) < (l.length:Int)
  ·rw [if_pos hil,if_neg (by omega)];exact h4
  ·rw [if_neg hil];exact h4
 | succ d ih =>
  intro i out hi hil0 ho hm
  by_cases hil:i < l.length
  ·obtain ⟨m,m0,m1,hmod⟩:=mod_some l[i] (n:=1001) (by omega) (by omega)
   have hm':∀ x ∈ out ++ [m],0 ≤ x ∧ x ≤ 1000:=fun x hx=>by
    rcases List.mem_append.1 hx with hx | hx
    ·exact hm x hx
    ·rw [List.mem_singleton.1 hx];omega
   obtain ⟨l',E,h1,h2,h3,h5,h4⟩:=ih (i + 1) (out ++ [m]) (by omega) (by omega) (by simp [ho]) hm'
   refine ⟨l',E,h1,h2,h3,h5,Ev.step (fun k=>?_) h4⟩
   have hb:=sI_bound hm'
   have hlen:(out ++ [m]).length = i + 1:=by simp [ho]
   have hrd:rd (out ++ [m]) (i:Int) = m:=by rw [rd_get (by omega)];simp [← ho]
   have hs:sI out + m = sI (out ++ [m]):=by rw [sI_append];simp [sI]
   rw [numnahlaw07_tame.l0,if_pos (by omega),if_pos (by omega),if_pos (by omega),rd_get hil,hmod]
   simp only [Option.bind_some]
   rw [if_pos (by omega),if_pos (by omega),hrd,hs,wrap_id (by omega) (by omega),wrap_succ (by omega)]
  ·obtain ⟨l',E,h1,h2,h3,h5,h4⟩:=tame_end (by omega) hm e
   refine ⟨l',E,h1,h2,h3,fun hne=>by rw [h5 (by omega)];omega,Ev.step (f:=fun _=>some (l',E)) (fun k=>?_) (Ev.now _)⟩
   rw [numnahlaw07_tame.l0,if_neg (by omega)]
   exact h4
theorem ev_tame (l:List Int) (e:Int):∃ l' E,IsCl l' ∧ 0 ≤ E ∧ E ≤ sI l' ∧ (l.length ≠ 0 → l'.length = min l.length 10) ∧ Ev (fun k=>numnahlaw07_tame.f k l e) (l',E):=tame_l0 l e 10 0 [] (by omega) (by omega) rfl (by simp)
theorem IsRule.len {r:Nat} {q:List Rat} {E:Rat} {x:List Rat} (h:IsRule r q E x):x.length = q.length:=by
 obtain ⟨_,_,rfl,_⟩:=h
 exact List.length_map _
section
variable {l:List Int} (h:IsCl l) {E:Int} (h0:0 ≤ E) (h1:E ≤ sI l) {r:Nat}
include h h0 h1
theorem cl_nonneg:∀ c ∈ cl l,0 ≤ c:=fun c hc=>(cl_okC h c hc).lo
theorem award_pr (hr:r ≤ 4):∃ x,IsRule r (cl l) (E:Rat) x ∧ Ev (fun k=>shares_Award.f k (r:Int) l E) (encL x,0):=ev_Award h h0 h1 hr
theorem award_within {x:List Rat} (hx:IsRule r (cl l) (E:Rat) x):∃ φ:Rat → Rat,Form r (cl l) (E:Rat) φ ∧ x = (cl l).map φ ∧ tot x = (E:Rat) ∧ ∀ c ∈ cl l,0 ≤ φ c ∧ φ c ≤ c:=by
 obtain ⟨φ,hf,rfl,ht⟩:=hx
 exact ⟨φ,hf,rfl,ht,form_within hf (E_ge h0) (E_le h h0 h1) ht (cl_nonneg h h0 h1)⟩
theorem award_D {x:List Rat} (hx:IsRule r (cl l) (E:Rat) x):∃ D,0 < D ∧ D ≤ 10000 ∧ (r ≠ 0 → D ≤ 20) ∧ ∀ y ∈ x,y.den ∣ D:=by
 have hs:=sI_cl h
 have hl:=h.ten
 have hlen:(cl l).length ≤ 10:=by rw [cl_length];exact hl
 have hlen1:1 ≤ (cl l).length:=by rw [cl_length];exact h.one
 obtain ⟨φ,hf,rfl,ht⟩:=hx
 have hcl:∀ c ∈ cl l,c.den ∣ 2:=fun c hc=>(cl_okC h c hc).den
 have hch:∀ c ∈ cl l,(c / 2).den ∣ 2:=fun c hc=>(cl_half_okC h _ (List.mem_map.2 ⟨c,hc,rfl⟩)).den
 have wh:∀ {F L:Rat},F.den ∣ 2 → tot ((cl l).map fun c=>min c L) = F → ∃ D,2 ∣ D ∧ 0 < D ∧ D ≤ 20 ∧ ∀ c ∈ cl l,(min c L).den ∣ D:=fun {F L} hF h2=>by
  obtain ⟨m,m1,m2,md⟩:=IsEq.den2 (l:=cl l) ⟨L,rfl,h2⟩ (by omega) hcl hF hlen1
  exact ⟨2 * m,Nat.dvd_mul_right _ _,by omega,by omega,fun c hc=>md _ (List.mem_map.2 ⟨c,hc,rfl⟩)⟩
 have hv:∀ {F L:Rat},F.den ∣ 2 → tot ((cl l).map fun c=>min (c / 2) L) = F → ∃ D,2 ∣ D ∧ 0 < D ∧ D ≤ 20 ∧ ∀ c ∈ cl l,(min (c / 2) L).den ∣ D:=fun {F L} hF h2=>by
  rw [← map_half] at h2
  obtain ⟨m,m1,m2,md⟩:=IsEq.den2 (l:=(cl l).map (· / 2)) ⟨L,rfl,h2⟩ (by omega) (fun d hd=>(cl_half_okC h d hd).den) hF (by rw [List.length_map];exact hlen1)
  rw [List.length_map] at m2
  exact ⟨2 * m,Nat.dvd_mul_right _ _,by omega,by omega,fun c hc=>md _ (List.mem_map.2 ⟨c / 2,List.mem_map.2 ⟨c,hc,rfl⟩,rfl⟩)⟩
 have fin:∀ (f:Rat → Rat) (D:Nat),0 < D → D ≤ 10000 → (r ≠ 0 → D ≤ 20) → (∀ c ∈ cl l,(f c).den ∣ D) → ∃ D,0 < D ∧ D ≤ 10000 ∧ (r ≠ 0 → D ≤ 20) ∧ ∀ y ∈ (cl l).map f,y.den ∣ D:=fun f D d0 d1 d3 d2=>⟨D,d0,d1,d3,fun y hy=>by
  obtain ⟨c,hc,rfl⟩:=List.mem_map.1 hy
  exact d2 c hc⟩
 rcases form_cases hf with ⟨r0,rfl⟩ | ⟨_,L,rfl⟩ | ⟨_,L,rfl⟩ | ⟨_,_,L,rfl⟩ | ⟨_,_,L,rfl⟩ | ⟨_,_,L,rfl⟩
 ·obtain ⟨a,ha⟩:∃ a:Nat,sI l = (a:Int):=⟨(sI l).toNat,by omega⟩
  by_cases hp:0 < tot (cl l)
  ·have hap:0 < a:=by rw [tot_cl,ha] at hp;have:=Rat.intCast_pos.1 hp;omega
   refine fin _ a hap (by omega) (fun hr=>absurd r0 hr) (fun c hc=>?_)
   obtain ⟨n,hn,rfl⟩:=List.mem_map.1 hc
   rw [if_pos hp,tot_cl]
   have e:(n:Rat) * (E:Rat) / (sI l:Rat) = mkRat (n * E) a:=by rw [mk_frac,ha];push_cast;rfl
   rw [e]
   exact den_dvd _ (by omega)
  ·refine fin _ 1 (by omega) (by omega) (fun _=>by omega) (fun c hc=>?_)
   rw [if_neg hp]
   exact Nat.one_dvd _
 ·obtain ⟨D,_,d1,d2,d3⟩:=wh (E_den E) ht
  exact fin _ D d1 (by omega) (fun _=>d2) d3
 ·have hF:(tot (cl l) - (E:Rat)).den ∣ 2:=sub_den_dvd' (by rw [tot_cl];exact E_den _) (E_den E) (by omega)
  have:=tot_sub (fun c=>c) (fun c=>min c L) (cl l)
  rw [List.map_id',ht] at this
  obtain ⟨D,d0,d1,d2,d3⟩:=wh hF (L:=L) (by grind)
  exact fin _ D d1 (by omega) (fun _=>d2) fun c hc=>sub_den_dvd' (Nat.dvd_trans (hcl c hc) d0) (d3 c hc) d1
 ·obtain ⟨D,_,d1,d2,d3⟩:=hv (E_den E) ht
  exact fin _ D d1 (by omega) (fun _=>d2) d3
 ·have hF:(tot (cl l) - (E:Rat)).den ∣ 2:=sub_den_dvd' (by rw [tot_cl];exact E_den _) (E_den E) (by omega)
  have:=tot_sub (fun c=>c) (fun c=>min (c / 2) L) (cl l)
  rw [List.map_id',ht] at this
  obtain ⟨D,d0,d1,d2,d3⟩:=hv hF (L:=L) (by grind)
  exact fin _ D d1 (by omega) (fun _=>d2) fun c hc=>sub_den_dvd' (Nat.dvd_trans (hcl c hc) d0) (d3 c hc) d1
 ·have e:mkRat (sI l) 2 = (sI l:Rat) / 2:=mk_frac _ _
  have hF:((E:Rat) - tot (cl l) / 2).den ∣ 2:=sub_den_dvd' (E_den E) (by rw [tot_cl,← e];exact den_dvd _ (by omega)) (by omega)
  have:=tot_add (fun c=>c / 2) (fun c=>min (c / 2) L) (cl l)
  rw [ht,half_tot] at this
  obtain ⟨D,d0,d1,d2,d3⟩:=hv hF (L:=L) (by grind)
  exact fin _ D d1 (by omega) (fun _=>d2) fun c hc=>add_den_dvd' (Nat.dvd_trans (hch c hc) d0) (d3 c hc) d1
theorem award_den {x:List Rat} (hx:IsRule r (cl l) (E:Rat) x):∀ y ∈ x,y.den ≤ 10000:=by
 obtain ⟨D,d0,d1,_,d2⟩:=award_D h h0 h1 hx
 exact fun y hy=>Nat.le_trans (Nat.le_of_dvd d0 (d2 y hy)) d1
theorem award_sm {x:List Rat} (hx:IsRule r (cl l) (E:Rat) x):∀ y ∈ x,0 ≤ y ∧ Sm 10000000 10000 y:=by
 have hd:=award_den h h0 h1 hx
 obtain ⟨φ,hf,rfl,ht,hw⟩:=award_within h h0 h1 hx
 intro y hy
 have hdy:=hd y hy
 obtain ⟨c,hc,rfl⟩:=List.mem_map.1 hy
 obtain ⟨w1,w2⟩:=hw c hc
 have hhi:=(cl_okC h c hc).hi
 exact ⟨w1,Nat.le_trans (num_abs (B:=1000) w1 (by grind) hdy) (by decide),hdy⟩
theorem award_fit {x:List Rat} (hx:IsRule r (cl l) (E:Rat) x):Ev (fun k=>numnahlaw07_fit.f k (encL x)) true :=
 ev_fit (by rw [hx.len,cl_length];have:=h.ten;omega) (fun y hy=>by
  obtain ⟨a,b⟩:=award_sm h h0 h1 hx y hy
  exact ⟨a,b.mono (by decide) (by decide)⟩)
end
end Go.Proofs.Ytjohcjfmlhihbaa.P
namespace Go.Proofs.Ytjohcjfmlhihbaa.G
open Go.RowKit Go.Proofs.YtjohcjfmlhihbaaW.PrintWords Go.Proofs.YtjohcjfmlhihbaaW.PrintLast Go.Proofs.YtjohcjfmlhihbaaW.PrintMore
set_option maxHeartbeats 8000000
set_option maxRecDepth 100000
attribute [local go_sem] cond_true cond_false fld23_0 fld23_1 fld45_0 fld45_1 fld109_0 fld109_1 fld94_0 fld94_1 max2_int min2_int max_two min_two max_three min_three max_four min_four
def shares_sum.l0:Nat → List (S23) → Int → Int → Int → Int → Option (Int × Int)
 | 0,_,_,_,_,_=>none
 | k + 1,x7,x8,x9,d4,d5=>if x9 < x8 then (if 0 ≤ x9 then (if x9 < (x7.length:Int) then ((shares_add.f k d4 d5 ((rd_T23 x7 x9).f0) ((rd_T23 x7 x9).f1)).bind fun d9=>(shares_sum.l0 k x7 x8 (wrap64 (x9 + 1)) d9.1 d9.2)) else (none)) else (none)) else (some (d4,d5))
def shares_sum.f (k:Nat) (l0:List (S23)):Option (Int × Int):=(shares_whole.f 0).bind fun d0=>(shares_sum.l0 k l0 (l0.length:Int) 0 d0.1 d0.2)
theorem shares_sum.mono_l:∀ k,(∀ y0 y1 y2 y3 y4,LeO (shares_sum.l0 k y0 y1 y2 y3 y4) (shares_sum.l0 (k + 1) y0 y1 y2 y3 y4))
 | 0=>fun _ _ _ _ _ r h=>by simp [shares_sum.l0] at h
 | k + 1=>by
  have j7:=shares_sum.mono_l k
  intro y0 y1 y2 y3 y4
  unfold shares_sum.l0
  repeat' first
  | (with_reducible first | exact j7 _ _ _ _ _ | exact shares_add.mono _ _ _ _ _ | exact LeO.refl _ | exact LeO.none _ | refine LeO.ite ?_ ?_ | refine LeO.bind ?_ (fun _=>?_))
  | exact LeO.none _ | refine LeO.ite ?_ ?_ | refine LeO.bind ?_ (fun _=>?_)
theorem shares_sum.mono:∀ a0 k,LeO (shares_sum.f k a0) (shares_sum.f (k + 1) a0):=by
 intro a0 k
 have j7:=shares_sum.mono_l k
 unfold shares_sum.f
 repeat' first
   | (with_reducible first | exact j7 _ _ _ _ _ | exact shares_add.mono _ _ _ _ _ | exact LeO.refl _ | exact LeO.none _ | refine LeO.ite ?_ ?_ | refine LeO.bind ?_ (fun _=>?_))
   | exact LeO.none _ | refine LeO.ite ?_ ?_ | refine LeO.bind ?_ (fun _=>?_)
theorem shares_sum.calls (k:Nat) (A0:Option Addr) (c0:Nat) (l0:List (S23)) (r1:Int) (r2:Int) (w:World) (m2:Kd.C k23 w A0 l0.length l0) (m3:l0.length ≤ c0) (h:shares_sum.f k l0 = some (r1,r2)) :
  Calls Try.prog 83 #[.slice A0 l0.length c0] w fun e w'=>e = .returned (.agg #[.int .i64 r1,.int .i64 r2]) ∧ Below w.heap.size w w':=by
 have n5:=Try.underlying23
 have n6:=A_ m2
 have o1:=A_ m3
 clear m2 m3
 have HB:=A_ (Below.refl w.heap.size w)
 have H:((shares_whole.f 0).bind fun d0=>(shares_sum.l0 k l0 (l0.length:Int) 0 d0.1 d0.2)) = some (r1,r2):=h
 clear h
 replace H:=Option.bind_eq_some_iff.mp H
 obtain ⟨⟨e0,e4⟩,A20,H⟩:=H
 dsimp only at H
 have A2:=A_ A20
 clear A20
 have H':=A_ H
 clear H
 go_enter Try.func83,Try.ntmps83
 go_wp2_with (first | ((with_reducible refine gate_dst (N:=2) rfl ?_);refine bx 2 #[.int .i64 0,.int .i64 0] 23 ?_;intro d1 hg w3 hbox hb;have b3:=A_ hbox;have e6:=gw hg HB;have j8:=e6;replace HB:=bB HB hb;clear hb hbox hg) | ((with_reducible refine gate_callee (f:=64) rfl ?_);refine gL (some 6) Try.func64 #[.int .i64 0] ?_;(with_reducible refine (shares_whole.calls 0 e0 e4 _ A2.out).mono ?_);rintro e w4 ⟨rfl,hb⟩;refine ⟨_,rfl,?_⟩;replace b3:=kB b3 hb;replace HB:=bB HB hb;(try clear hb)) | ((with_reducible refine gate_dst (N:=3) rfl ?_);refine bx 3 #[.int .i64 0,.int .i64 0] 23 ?_;intro b5 hg w5 hbox hb;have b0:=A_ hbox;have e7:=gw hg HB;have j9:=e7;have b4:=nl hg b3;have b6:=ng hg b3;replace b3:=kB b3 hb;replace HB:=bB HB hb;clear hb hbox hg;have n7:=b6.out;have n8:=b4.out;have l5:w5.cell? ⟨b5,0,none⟩ = some (.int .i64 0):=cz b0 0;have l6:w5.cell? ⟨b5,1,none⟩ = some (.int .i64 0):=cz b0 1;have l7:=blk_frozen b0.out 0;have l8:=blk_frozen b0.out 1))
 go_loopg [9] k (fun kq v9 w'=>∃ (b9:Int) (b1:Int) (b2:Int),v9 = .int .i64 b9 ∧ Aside0 (shares_sum.l0 kq l0 (l0.length:Int) b9 b1 b2 = some (r1,r2)) ∧ Aside0 (kq ≤ k) ∧ Aside0 (w'.heap[d1]? = some (.cells #[.int .i64 0,.int .i64 0] 23 (0,0))) ∧ Aside0 (w'.heap[b5]? = some (.cells #[.int .i64 b1,.int .i64 b2] 23 (0,0))) ∧ Aside0 (Below w.heap.size w w'))
 case atStart=>exact ⟨(0),(e0),(e4),(by first | rfl | (simp;done) | (simp [*];done)),H',⟨Nat.le_refl _⟩,⟨by (with_reducible repeat (first | refine blk_drewN ?_ _ | refine blk_drew ?_ | refine blk_alloc ?_ _));refine blk_far ?_ b4.out _;(with_reducible repeat (first | refine blk_drewN ?_ _ | refine blk_drew ?_ | refine blk_alloc ?_ _));refine blk_far ?_ b4.out _;(with_reducible repeat (first | refine blk_drewN ?_ _ | refine blk_drew ?_ | refine blk_alloc ?_ _));exact b3.out⟩,⟨by (with_reducible repeat (first | refine blk_drewN ?_ _ | refine blk_drew ?_ | refine blk_alloc ?_ _));refine blk_put (cs:=#[.int .i64 e0,.int .i64 0]) ?_ 1 _ rfl;(with_reducible repeat (first | refine blk_drewN ?_ _ | refine blk_drew ?_ | refine blk_alloc ?_ _));refine blk_put (cs:=#[.int .i64 0,.int .i64 0]) ?_ 0 _ rfl;(with_reducible repeat (first | refine blk_drewN ?_ _ | refine blk_drew ?_ | refine blk_alloc ?_ _));exact b0.out⟩,⟨bl HB⟩⟩
 case round =>
  clear H'
  obtain ⟨b9,b1,b2,rfl,HA,m4,b3,b0,HB⟩:=hrel
  cases gk with
  | zero=>exact absurd HA.out (by simp [shares_sum.l0])
  | succ k1 =>
   have H:=HA.out
   clear HA
   simp only [shares_sum.l0] at H
   by_cases c8:b9 < (l0.length:Int)
   case neg =>
    rw [if_neg c8] at H
    have l9:=decide_eq_false c8
    clear c8
    simp only [Option.some.injEq,Prod.mk.injEq] at H
    obtain ⟨rfl,rfl⟩:=H
    have m5:=b6.out
    have m6:=b4.out
    have h0:wr.cell? ⟨b5,0,none⟩ = some (.int .i64 b1):=cz b0 0
    have h1:wr.cell? ⟨b5,1,none⟩ = some (.int .i64 b2):=cz b0 1
    have h2:=blk_frozen b0.out 0
    have h3:=blk_frozen b0.out 1
    have h4:wr.cell? ⟨d1,0,none⟩ = some (.int .i64 0):=cz b3 0
    have h5:wr.cell? ⟨d1,1,none⟩ = some (.int .i64 0):=cz b3 1
    have h6:=blk_frozen b3.out 0
    have h7:=blk_frozen b3.out 1
    go_wp2
    refine bodyPost_ret (results_cell_row rfl _ _ d1 23 #[.int .i64 b1,.int .i64 b2] (0,0) _ rfl (by (with_reducible repeat (first | refine blk_drewN ?_ _ | refine blk_drew ?_ | refine blk_alloc ?_ _));refine blk_put (cs:=#[.int .i64 b1,.int .i64 0]) ?_ 1 _ rfl;(with_reducible repeat (first | refine blk_drewN ?_ _ | refine blk_drew ?_ | refine blk_alloc ?_ _));refine blk_put (cs:=#[.int .i64 0,.int .i64 0]) ?_ 0 _ rfl;(with_reducible repeat (first | refine blk_drewN ?_ _ | refine blk_drew ?_ | refine blk_alloc ?_ _));exact b3.out) Try.underlying23 rfl (by kernel_rfl)) rfl ?_
    exact ⟨by first | rfl | (simp [errW_none,errW_some] <;> rfl) | (simp [*,errW_none,errW_some] <;> rfl),bl HB⟩
   rw [if_pos c8] at H
   have l9:=decide_eq_true c8
   clear c8
   replace H:=gd H
   obtain ⟨c9,H⟩:=H
   have n9:=decide_eq_true c9
   clear c9
   replace H:=gd H
   obtain ⟨c10,H⟩:=H
   have m7:=decide_eq_true c10
   clear c10
   replace H:=Option.bind_eq_some_iff.mp H
   obtain ⟨⟨e1,e5⟩,A110,H⟩:=H
   dsimp only at H
   have o0:=A_ A110
   clear A110
   have H':=A_ H
   clear H
   have e2:0 ≤ (b9:Int):=of_decide_eq_true (by first | (with_reducible assumption) | assumption)
   have e3:b9 < (l0.length:Int):=of_decide_eq_true (by first | (with_reducible assumption) | assumption)
   obtain ⟨m0,e9,d2,d3⟩:=at_T23 n6.out b9 e2 e3
   cases e9
   replace d2:=(HB.out.cell (World.block_lt_of_cell? w _ d2)).trans d2
   replace d3:=(HB.out.cell (World.block_lt_of_cell? w _ d3)).trans d3
   replace e2:=eq_true e2
   replace e3:=eq_true e3
   go_wp2_with (first | ((with_reducible refine gate_dst (N:=5) rfl ?_);refine bx 5 #[.int .i64 0,.int .i64 0] 23 ?_;intro d8 hg h8 hbox hb;have c1:=A_ hbox;have e8:=gw hg HB;have m1:=e8;have b7:=nl hg b3;have d6:=ng hg b3;have b8:=nl hg b0;have d7:=ng hg b0;replace b3:=kB b3 hb;replace b0:=kB b0 hb;replace HB:=bB HB hb;clear hb hbox hg;have m8:=d6.out;have m9:=b7.out;have n0:=d7.out;have n1:=b8.out;have h9:h8.cell? ⟨d8,0,none⟩ = some (.int .i64 0):=cz c1 0;have i0:h8.cell? ⟨d8,1,none⟩ = some (.int .i64 0):=cz c1 1;have i1:=blk_frozen c1.out 0;have i2:=blk_frozen c1.out 1;have n2:=b6.out;have n3:=b4.out;have i3:h8.cell? ⟨b5,0,none⟩ = some (.int .i64 b1):=cz b0 0;have i4:h8.cell? ⟨b5,1,none⟩ = some (.int .i64 b2):=cz b0 1;have i5:=blk_frozen b0.out 0;have i6:=blk_frozen b0.out 1) | ((with_reducible refine gate_callee (f:=88) rfl ?_);refine gL (some 15) Try.func88 #[.agg #[.int .i64 b1,.int .i64 b2],.agg #[.int .i64 ((rd_T23 l0 b9).f0),.int .i64 ((rd_T23 l0 b9).f1)]] ?_;(with_reducible refine (shares_add.calls k1 b1 b2 ((rd_T23 l0 b9).f0) ((rd_T23 l0 b9).f1) e1 e5 _ o0.out).mono ?_);rintro e n4 ⟨rfl,hb⟩;refine ⟨_,rfl,?_⟩;replace b3:=A_ (blk_below (g:=d1) (o:=.cells #[.int .i64 0,.int .i64 0] 23 (0,0)) (by (with_reducible repeat (first | refine blk_drewN ?_ _ | refine blk_drew ?_ | refine blk_alloc ?_ _));refine blk_far ?_ b7.out _;(with_reducible repeat (first | refine blk_drewN ?_ _ | refine blk_drew ?_ | refine blk_alloc ?_ _));refine blk_far ?_ b7.out _;(with_reducible repeat (first | refine blk_drewN ?_ _ | refine blk_drew ?_ | refine blk_alloc ?_ _));exact b3.out) hb);replace b0:=A_ (blk_below (g:=b5) (o:=.cells #[.int .i64 b1,.int .i64 b2] 23 (0,0)) (by (with_reducible repeat (first | refine blk_drewN ?_ _ | refine blk_drew ?_ | refine blk_alloc ?_ _));refine blk_far ?_ b8.out _;(with_reducible repeat (first | refine blk_drewN ?_ _ | refine blk_drew ?_ | refine blk_alloc ?_ _));refine blk_far ?_ b8.out _;(with_reducible repeat (first | refine blk_drewN ?_ _ | refine blk_drew ?_ | refine blk_alloc ?_ _));exact b0.out) hb);replace c1:=A_ (blk_below (g:=d8) (o:=.cells #[.int .i64 ((rd_T23 l0 b9).f0),.int .i64 ((rd_T23 l0 b9).f1)] 23 (0,0)) (by (with_reducible repeat (first | refine blk_drewN ?_ _ | refine blk_drew ?_ | refine blk_alloc ?_ _));refine blk_put (cs:=#[.int .i64 ((rd_T23 l0 b9).f0),.int .i64 0]) ?_ 1 _ rfl;(with_reducible repeat (first | refine blk_drewN ?_ _ | refine blk_drew ?_ | refine blk_alloc ?_ _));refine blk_put (cs:=#[.int .i64 0,.int .i64 0]) ?_ 0 _ rfl;(with_reducible repeat (first | refine blk_drewN ?_ _ | refine blk_drew ?_ | refine blk_alloc ?_ _));exact c1.out) hb);replace HB:=bB HB hb;(try clear hb);have i7:n4.cell? ⟨b5,0,none⟩ = some (.int .i64 b1):=cz b0 0;have i8:n4.cell? ⟨b5,1,none⟩ = some (.int .i64 b2):=cz b0 1;have i9:=blk_frozen b0.out 0;have j5:=blk_frozen b0.out 1))
   go_roundg k1
   case measure=>have:=m4.out;omega
   case rel=>exact ⟨(wrap64 (b9 + 1)),(e1),(e5),(by first | rfl | (simp;done) | (simp [*];done)),H',⟨by have:=m4.out;omega⟩,⟨by (with_reducible repeat (first | refine blk_drewN ?_ _ | refine blk_drew ?_ | refine blk_alloc ?_ _));refine blk_far ?_ b4.out _;(with_reducible repeat (first | refine blk_drewN ?_ _ | refine blk_drew ?_ | refine blk_alloc ?_ _));refine blk_far ?_ b4.out _;(with_reducible repeat (first | refine blk_drewN ?_ _ | refine blk_drew ?_ | refine blk_alloc ?_ _));exact b3.out⟩,⟨by (with_reducible repeat (first | refine blk_drewN ?_ _ | refine blk_drew ?_ | refine blk_alloc ?_ _));refine blk_put (cs:=#[.int .i64 e1,.int .i64 b2]) ?_ 1 _ rfl;(with_reducible repeat (first | refine blk_drewN ?_ _ | refine blk_drew ?_ | refine blk_alloc ?_ _));refine blk_put (cs:=#[.int .i64 b1,.int .i64 b2]) ?_ 0 _ rfl;(with_reducible repeat (first | refine blk_drewN ?_ _ | refine blk_drew ?_ | refine blk_alloc ?_ _));exact b0.out⟩,⟨bl HB⟩⟩
end Go.Proofs.Ytjohcjfmlhihbaa.G
namespace Go.Proofs.Ytjohcjfmlhihbaa.G
open Go.RowKit Go.Proofs.YtjohcjfmlhihbaaW.PrintWords Go.Proofs.YtjohcjfmlhihbaaW.PrintLast Go.Proofs.YtjohcjfmlhihbaaW.PrintMore
set_option maxHeartbeats 8000000
set_option maxRecDepth 100000
attribute [local go_sem] cond_true cond_false fld23_0 fld23_1 fld45_0 fld45_1 fld109_0 fld109_1 fld94_0 fld94_1 max2_int min2_int max_two min_two max_three min_three max_four min_four
attribute [local go_sem high] eqA23
def shares_claims_isAward.l0:Nat → List (S23) → List (S23) → Int → Int → List Int → Int → Option (Bool)
 | 0,_,_,_,_,_,_=>none
 | k + 1,x1,h9,o5,h2,d8,e4=>if h2 < o5 then (if 0 ≤ h2 then (if h2 < (h9.length:Int) then ((shares_within.f ((rd_T23 h9 h2).f1) 1 20).bind fun h1=>(if h1 = true then ((shares_isValid.f k ((rd_T23 h9 h2).f0) ((rd_T23 h9 h2).f1)).bind fun e3=>(if e3 = true then (if h2 < (d8.length:Int) then ((shares_within.f ((rd_T23 h9 h2).f0) 0 (wrap64 ((rd d8 h2) * ((rd_T23 h9 h2).f1)))).bind fun d6=>(if d6 = true then (shares_claims_isAward.l0 k x1 h9 o5 (wrap64 (h2 + 1)) d8 e4) else (some false))) else (none)) else (some false))) else (some false))) else (none)) else (none)) else ((shares_sum.f k x1).bind fun h3=>((shares_whole.f e4).bind fun h4=>(some (h3.1 == h4.1 && (h3.2 == h4.2)))))
def shares_claims_isAward.f (k:Nat) (b8:List Int) (d1:Int) (l1:List (S23)):Option (Bool):=if (l1.length:Int) = (b8.length:Int) then (shares_claims_isAward.l0 k l1 l1 (l1.length:Int) 0 b8 d1) else (some false)
theorem shares_claims_isAward.mono_l:∀ k,(∀ y0 y1 y2 y3 y4 y5,LeO (shares_claims_isAward.l0 k y0 y1 y2 y3 y4 y5) (shares_claims_isAward.l0 (k + 1) y0 y1 y2 y3 y4 y5))
 | 0=>fun _ _ _ _ _ _ r h=>by simp [shares_claims_isAward.l0] at h
 | k + 1=>by
  have n5:=shares_claims_isAward.mono_l k
  intro y0 y1 y2 y3 y4 y5
  unfold shares_claims_isAward.l0
  repeat' first
  | (with_reducible first | exact n5 _ _ _ _ _ _ | exact shares_isValid.mono _ _ _ | exact shares_sum.mono _ _ | exact LeO.refl _ | exact LeO.none _ | refine LeO.ite ?_ ?_ | refine LeO.bind ?_ (fun _=>?_))
  | exact LeO.none _ | refine LeO.ite ?_ ?_ | refine LeO.bind ?_ (fun _=>?_)
theorem shares_claims_isAward.mono:∀ a0 a1 a2 k,LeO (shares_claims_isAward.f k a0 a1 a2) (shares_claims_isAward.f (k + 1) a0 a1 a2):=by
 intro a0 a1 a2 k
 have n5:=shares_claims_isAward.mono_l k
 unfold shares_claims_isAward.f
 repeat' first
   | (with_reducible first | exact n5 _ _ _ _ _ _ | exact shares_isValid.mono _ _ _ | exact shares_sum.mono _ _ | exact LeO.refl _ | exact LeO.none _ | refine LeO.ite ?_ ?_ | refine LeO.bind ?_ (fun _=>?_))
   | exact LeO.none _ | refine LeO.ite ?_ ?_ | refine LeO.bind ?_ (fun _=>?_)
def shares_claims_isAward.T6:Bool × List (List Nat × List Nat):=(true,[([],[]),([0],[0]),([1],[1]),([2],[2]),([3,2],[3]),([4],[4]),([5,4,4],[4,5]),([6,4],[4,6]),([4,7],[4,7]),([8,6],[8]),([9],[9]),([10,9],[9,10]),([9],[9]),([12,9],[9,12]),([9],[9]),([13,14,9],[9,13,14]),([15,9],[9,15]),([9],[9]),([17,9],[9,17]),([16,18,9],[9,16,18]),([11,19,9,9],[9,11,19]),([20,9],[9,20]),([9,21],[9,21])])
def shares_claims_isAward.B6:List Nat:=[0,1,3,7,15,31,63,127,255,511,1023,2047,1023,5119,1023,29695,62463,1023,132095,521215,1048575,2097151,4194303]
theorem shares_claims_isAward.tab6:rtab .any (opsOf Try.f87 6) = shares_claims_isAward.T6:=by kernel_rfl
theorem shares_claims_isAward.bits6:waitsOk shares_claims_isAward.T6.2 shares_claims_isAward.B6 = true:=by kernel_rfl
theorem shares_claims_isAward.calls (k:Nat) (d7:Option Addr) (d5:Nat) (b8:List Int) (d1:Int) (A1:Option Addr) (c1:Nat) (l1:List (S23)) (r:Bool) (w:World) (h6:Kd.C (Kd.int .i64) w d7 b8.length b8) (h7:b8.length ≤ d5) (o6:Kd.C k23 w A1 l1.length l1) (o7:l1.length ≤ c1) (h:shares_claims_isAward.f k b8 d1 l1 = some r) :
  Calls Try.prog 87 #[.agg #[.slice d7 b8.length d5,.int .i64 d1],.slice A1 l1.length c1] w fun e w'=>e = .returned (.bool r) ∧ Below w.heap.size w w':=by
 have q3:=Try.underlying94
 have q4:=Try.underlying23
 have h8:=A_ h6
 have o8:=A_ h7
 clear h6 h7
 have i5:=A_ o6
 have q5:=A_ o7
 clear o6 o7
 have HB:=A_ (Below.refl w.heap.size w)
 have H:(if (l1.length:Int) = (b8.length:Int) then (shares_claims_isAward.l0 k l1 l1 (l1.length:Int) 0 b8 d1) else (some false)) = some r:=h
 clear h
 by_cases c3:(l1.length:Int) = (b8.length:Int)
 case neg =>
  rw [if_neg c3] at H
  have n6:((l1.length:Int) == (b8.length:Int)) = false:=beq_eq_false_iff_ne.mpr c3
  have n7:((l1.length:Int) != (b8.length:Int)) = true:=bne_iff_ne.mpr c3
  have n8:(l1.length == b8.length) = false:=by first | simpa using c3 | (simp at c3 ⊢;omega)
  obtain rfl:=Option.some.inj H
  go_enter Try.func87,Try.ntmps87
  go_wp2_with (first | ((with_reducible refine gate_dst (N:=2) rfl ?_);refine bx 2 #[.slice d7 b8.length d5,.int .i64 d1] 94 ?_;intro d0 hg o9 hbox hb;have b1:=A_ hbox;have e5:=gw hg HB;have i0:=e5;replace HB:=bB HB hb;clear hb hbox hg;have j8:o9.cell? ⟨d0,0,none⟩ = some (.slice d7 b8.length d5):=cz b1 0;have j9:o9.cell? ⟨d0,1,none⟩ = some (.int .i64 d1):=cz b1 1;have l5:=blk_frozen b1.out 0;have l6:=blk_frozen b1.out 1))
  go_ret
  exact ⟨by first | rfl | (simp [errW_none,errW_some] <;> rfl) | (simp [*,errW_none,errW_some] <;> rfl),bl HB⟩
 rw [if_pos c3] at H
 have n6:((l1.length:Int) == (b8.length:Int)) = true:=beq_iff_eq.mpr c3
 have n7:((l1.length:Int) != (b8.length:Int)) = false:=bne_eq_false_iff_eq.mpr c3
 have n8:(l1.length == b8.length) = true:=by first | simpa using c3 | (simp at c3 ⊢;omega)
 clear c3
 have H':=A_ H
 clear H
 go_enter Try.func87,Try.ntmps87
 go_wp2_with (first | ((with_reducible refine gate_dst (N:=2) rfl ?_);refine bx 2 #[.slice d7 b8.length d5,.int .i64 d1] 94 ?_;intro d0 hg w4 hbox hb;have b1:=A_ hbox;have e5:=gw hg HB;have i0:=e5;replace HB:=bB HB hb;clear hb hbox hg;have n9:w4.cell? ⟨d0,0,none⟩ = some (.slice d7 b8.length d5):=cz b1 0;have o0:w4.cell? ⟨d0,1,none⟩ = some (.int .i64 d1):=cz b1 1;have o1:=blk_frozen b1.out 0;have o2:=blk_frozen b1.out 1))
 go_loopg [15] k (fun kq q6 w'=>∃ (b0:Int),q6 = .int .i64 b0 ∧ Aside0 (shares_claims_isAward.l0 kq l1 l1 (l1.length:Int) b0 b8 d1 = some r) ∧ Aside0 (kq ≤ k) ∧ Aside0 (w'.heap[d0]? = some (.cells #[(.slice d7 b8.length d5),.int .i64 d1] 94 (0,0))) ∧ Aside0 (Below w.heap.size w w'))
 case atStart=>exact ⟨(0),(by first | rfl | (simp;done) | (simp [*];done)),H',⟨Nat.le_refl _⟩,⟨by (with_reducible repeat (first | refine blk_drewN ?_ _ | refine blk_drew ?_ | refine blk_alloc ?_ _));exact b1.out⟩,⟨bl HB⟩⟩
 case round =>
  clear H'
  obtain ⟨b0,rfl,HA,p0,b1,HB⟩:=hrel
  cases gk with
  | zero=>exact absurd HA.out (by simp [shares_claims_isAward.l0])
  | succ k1 =>
   have H:=HA.out
   clear HA
   simp only [shares_claims_isAward.l0] at H
   by_cases c6:b0 < (l1.length:Int)
   case neg =>
    rw [if_neg c6] at H
    have o3:=decide_eq_false c6
    clear c6
    replace H:=Option.bind_eq_some_iff.mp H
    obtain ⟨⟨i6,i7⟩,A390,H⟩:=H
    dsimp only at H
    have q7:=A_ A390
    clear A390
    replace H:=Option.bind_eq_some_iff.mp H
    obtain ⟨⟨i8,i9⟩,A400,H⟩:=H
    dsimp only at H
    have q8:=A_ A400
    clear A400
    obtain rfl:=Option.some.inj H
    try go_wp2
    replace b1:=kD b1
    replace HB:=bD HB
    refine start_ (n:=7) (S:=fun w'=>w'.cell? ⟨d0,0,none⟩ = some (.slice d7 b8.length d5) ∧ w'.cell? ⟨d0,1,none⟩ = some (.int .i64 d1)) (ds:=[]) (ba 7 0) (by kernel_rfl) rfl rfl ⟨cz b1 0,cz b1 1⟩ (fun hHeld=>?_)
    generalize wr.drew = r5 at b1 HB hHeld ⊢
    refine pr 0 44 1 ?_
    refine pr 2 46 5 ?_
    refine tr 3 47 13 hHeld ?_
    refine os 1 45 15 (fun K hK=>?_)
    refine gq Try.func83 #[.slice A1 l1.length c1] ?_
    with_reducible refine (shares_sum.calls k1 _ _ l1 i6 i7 _ ?side1 ?side2 q7.out).mono ?_
    (case side1=>exact cB i5 HB)
    (case side2=>exact q5.out)
    rintro e r6 ⟨rfl,hb⟩
    refine ⟨_,rfl,?_⟩
    replace b1:=kB b1 hb
    replace HB:=bB HB hb
    (try clear hb)
    refine hz hK (fun hHeld=>?_)
    clear hK K
    refine nq 45 ?_
    refine os 4 48 31 (fun K hK=>?_)
    refine gq Try.func64 #[.int .i64 d1] ?_
    with_reducible refine (shares_whole.calls d1 i8 i9 _ q8.out).mono ?_
    rintro e r7 ⟨rfl,hb⟩
    refine ⟨_,rfl,?_⟩
    replace b1:=kB b1 hb
    replace HB:=bB HB hb
    (try clear hb)
    refine hz hK (fun hHeld=>?_)
    clear hK K
    refine nq 48 ?_
    refine pr 5 49 63 ?_
    refine pr 6 4 127 ?_
    refine done_ (by kernel_rfl) ?_
    try go_wp2
    go_ret
    exact ⟨by first | rfl | (simp [errW_none,errW_some] <;> rfl) | (simp [*,errW_none,errW_some] <;> rfl),bl HB⟩
   rw [if_pos c6] at H
   have o3:=decide_eq_true c6
   clear c6
   replace H:=gd H
   obtain ⟨c7,H⟩:=H
   have q9:=decide_eq_true c7
   clear c7
   replace H:=gd H
   obtain ⟨c8,H⟩:=H
   have r0:=decide_eq_true c8
   clear c8
   replace H:=Option.bind_eq_some_iff.mp H
   obtain ⟨h1,p1,H⟩:=H
   replace H:(if h1 = true then ((shares_isValid.f k1 ((rd_T23 l1 b0).f0) ((rd_T23 l1 b0).f1)).bind fun e3=>(if e3 = true then (if b0 < (b8.length:Int) then ((shares_within.f ((rd_T23 l1 b0).f0) 0 (wrap64 ((rd b8 b0) * ((rd_T23 l1 b0).f1)))).bind fun d6=>(if d6 = true then (shares_claims_isAward.l0 k1 l1 l1 (l1.length:Int) (wrap64 (b0 + 1)) b8 d1) else (some false))) else (none)) else (some false))) else (some false)) = some r:=H
   have A9:=A_ p1
   clear p1
   by_cases c10:h1 = true
   case neg =>
    replace c10:=Bool.eq_false_iff.mpr c10
    subst c10
    rw [if_neg (show ¬ (false = true) by decide)] at H
    obtain rfl:=Option.some.inj H
    have d2:0 ≤ (b0:Int):=of_decide_eq_true (by first | (with_reducible assumption) | assumption)
    have d3:b0 < (l1.length:Int):=of_decide_eq_true (by first | (with_reducible assumption) | assumption)
    obtain ⟨e6,d9,b6,b7⟩:=at_T23 i5.out b0 d2 d3
    cases d9
    replace b6:=(HB.out.cell (World.block_lt_of_cell? w _ b6)).trans b6
    replace b7:=(HB.out.cell (World.block_lt_of_cell? w _ b7)).trans b7
    replace d2:=eq_true d2
    replace d3:=eq_true d3
    try go_wp2_with (first | ((with_reducible refine gate_dst (N:=6) rfl ?_);refine bx 6 #[.int .i64 0,.int .i64 0] 23 ?_;intro b3 hg i1 hbox hb;have b2:=A_ hbox;have d4:=gw hg HB;have e7:=d4;have b4:=nl hg b1;have b9:=ng hg b1;replace b1:=kB b1 hb;replace HB:=bB HB hb;clear hb hbox hg;have p2:=b9.out;have p3:=b4.out;have l7:i1.cell? ⟨b3,0,none⟩ = some (.int .i64 0):=cz b2 0;have l8:i1.cell? ⟨b3,1,none⟩ = some (.int .i64 0):=cz b2 1;have l9:=blk_frozen b2.out 0;have m0:=blk_frozen b2.out 1))
    have e8:Aside0 (((i1.setCell ⟨b3,0,none⟩ (.int .i64 ((rd_T23 l1 b0).f0))).setCell ⟨b3,1,none⟩ (.int .i64 ((rd_T23 l1 b0).f1))).heap[d0]? = some (.cells #[.slice d7 b8.length d5,.int .i64 d1] 94 (0,0))):=⟨by (with_reducible repeat (first | refine blk_drewN ?_ _ | refine blk_drew ?_ | refine blk_alloc ?_ _));refine blk_far ?_ b4.out _;(with_reducible repeat (first | refine blk_drewN ?_ _ | refine blk_drew ?_ | refine blk_alloc ?_ _));refine blk_far ?_ b4.out _;(with_reducible repeat (first | refine blk_drewN ?_ _ | refine blk_drew ?_ | refine blk_alloc ?_ _));exact b1.out⟩
    have e9:Aside0 (((i1.setCell ⟨b3,0,none⟩ (.int .i64 ((rd_T23 l1 b0).f0))).setCell ⟨b3,1,none⟩ (.int .i64 ((rd_T23 l1 b0).f1))).heap[b3]? = some (.cells #[.int .i64 ((rd_T23 l1 b0).f0),.int .i64 ((rd_T23 l1 b0).f1)] 23 (0,0))):=⟨by (with_reducible repeat (first | refine blk_drewN ?_ _ | refine blk_drew ?_ | refine blk_alloc ?_ _));refine blk_put (cs:=#[.int .i64 ((rd_T23 l1 b0).f0),.int .i64 0]) ?_ 1 _ rfl;(with_reducible repeat (first | refine blk_drewN ?_ _ | refine blk_drew ?_ | refine blk_alloc ?_ _));refine blk_put (cs:=#[.int .i64 0,.int .i64 0]) ?_ 0 _ rfl;(with_reducible repeat (first | refine blk_drewN ?_ _ | refine blk_drew ?_ | refine blk_alloc ?_ _));exact b2.out⟩
    have h0:Aside0 (Below w.heap.size w ((i1.setCell ⟨b3,0,none⟩ (.int .i64 ((rd_T23 l1 b0).f0))).setCell ⟨b3,1,none⟩ (.int .i64 ((rd_T23 l1 b0).f1)))):=⟨bl HB⟩
    generalize ((i1.setCell ⟨b3,0,none⟩ (.int .i64 ((rd_T23 l1 b0).f0))).setCell ⟨b3,1,none⟩ (.int .i64 ((rd_T23 l1 b0).f1))) = r1 at e8 e9 h0 ⊢
    have b1:=e8
    have b2:=e9
    have HB:=h0
    clear e8 e9 h0
    replace b1:=kD b1
    replace b2:=kD b2
    replace HB:=bD HB
    refine st 23 (fun w'=>w'.cell? ⟨b3,0,none⟩ = some (.int .i64 ((rd_T23 l1 b0).f0)) ∧ w'.cell? ⟨b3,1,none⟩ = some (.int .i64 ((rd_T23 l1 b0).f1))) [] shares_claims_isAward.tab6 shares_claims_isAward.bits6 (fun hHeld HT_ HW_=>?_)
    generalize r1.drew = r8 at b1 b2 HB hHeld ⊢
    refine pq 0 20 1 HT_ ?_
    refine tq 1 21 3 HT_ HW_ hHeld ?_
    refine oq 2 22 7 HT_ (fun K hK=>?_)
    refine gq Try.func92 #[.int .i64 ((rd_T23 l1 b0).f1),.int .i64 1,.int .i64 20] ?_
    with_reducible refine (shares_within.calls ((rd_T23 l1 b0).f1) 1 20 false _ A9.out).mono ?_
    rintro e w' ⟨rfl,⟨nd,rfl⟩⟩
    refine ⟨_,rfl,?_⟩
    refine hz hK (fun hHeld=>?_)
    clear hK K
    refine nq 22 ?_
    refine pq 3 23 15 HT_ ?_
    refine pq 4 24 31 HT_ ?_
    refine pu 5 25 63 HT_ ?_
    refine pu 6 26 127 HT_ ?_
    refine pu 7 27 255 HT_ ?_
    refine pq 8 28 511 HT_ ?_
    refine pq 9 29 1023 HT_ ?_
    refine pu 10 30 2047 HT_ ?_
    refine pu 11 31 4095 HT_ ?_
    refine pu 12 32 8191 HT_ ?_
    refine pu 13 33 16383 HT_ ?_
    refine pu 14 34 32767 HT_ ?_
    refine pu 15 35 65535 HT_ ?_
    refine pu 16 36 131071 HT_ ?_
    refine pu 17 37 262143 HT_ ?_
    refine pu 18 38 524287 HT_ ?_
    refine pu 19 39 1048575 HT_ ?_
    refine pu 20 40 2097151 HT_ ?_
    refine pu 21 41 4194303 HT_ ?_
    refine pq 22 42 8388607 HT_ ?_
    refine done_ (done_of HT_.out (by kernel_rfl)) ?_
    try go_wp2
    go_ret
    exact ⟨by first | rfl | (simp [errW_none,errW_some] <;> rfl) | (simp [*,errW_none,errW_some] <;> rfl),bl HB⟩
   subst c10
   rw [if_pos rfl] at H
   replace H:=Option.bind_eq_some_iff.mp H
   obtain ⟨e3,j5,H⟩:=H
   replace H:(if e3 = true then (if b0 < (b8.length:Int) then ((shares_within.f ((rd_T23 l1 b0).f0) 0 (wrap64 ((rd b8 b0) * ((rd_T23 l1 b0).f1)))).bind fun d6=>(if d6 = true then (shares_claims_isAward.l0 k1 l1 l1 (l1.length:Int) (wrap64 (b0 + 1)) b8 d1) else (some false))) else (none)) else (some false)) = some r:=H
   have o4:=A_ j5
   clear j5
   by_cases m1:e3 = true
   case neg =>
    replace m1:=Bool.eq_false_iff.mpr m1
    subst m1
    rw [if_neg (show ¬ (false = true) by decide)] at H
    obtain rfl:=Option.some.inj H
    have d2:0 ≤ (b0:Int):=of_decide_eq_true (by first | (with_reducible assumption) | assumption)
    have d3:b0 < (l1.length:Int):=of_decide_eq_true (by first | (with_reducible assumption) | assumption)
    obtain ⟨e6,d9,b6,b7⟩:=at_T23 i5.out b0 d2 d3
    cases d9
    replace b6:=(HB.out.cell (World.block_lt_of_cell? w _ b6)).trans b6
    replace b7:=(HB.out.cell (World.block_lt_of_cell? w _ b7)).trans b7
    replace d2:=eq_true d2
    replace d3:=eq_true d3
    try go_wp2_with (first | ((with_reducible refine gate_dst (N:=6) rfl ?_);refine bx 6 #[.int .i64 0,.int .i64 0] 23 ?_;intro b3 hg i2 hbox hb;have b2:=A_ hbox;have d4:=gw hg HB;have e7:=d4;have b4:=nl hg b1;have b9:=ng hg b1;replace b1:=kB b1 hb;replace HB:=bB HB hb;clear hb hbox hg;have p4:=b9.out;have p5:=b4.out;have m2:i2.cell? ⟨b3,0,none⟩ = some (.int .i64 0):=cz b2 0;have m3:i2.cell? ⟨b3,1,none⟩ = some (.int .i64 0):=cz b2 1;have m4:=blk_frozen b2.out 0;have m5:=blk_frozen b2.out 1))
    have e8:Aside0 (((i2.setCell ⟨b3,0,none⟩ (.int .i64 ((rd_T23 l1 b0).f0))).setCell ⟨b3,1,none⟩ (.int .i64 ((rd_T23 l1 b0).f1))).heap[d0]? = some (.cells #[.slice d7 b8.length d5,.int .i64 d1] 94 (0,0))):=⟨by (with_reducible repeat (first | refine blk_drewN ?_ _ | refine blk_drew ?_ | refine blk_alloc ?_ _));refine blk_far ?_ b4.out _;(with_reducible repeat (first | refine blk_drewN ?_ _ | refine blk_drew ?_ | refine blk_alloc ?_ _));refine blk_far ?_ b4.out _;(with_reducible repeat (first | refine blk_drewN ?_ _ | refine blk_drew ?_ | refine blk_alloc ?_ _));exact b1.out⟩
    have e9:Aside0 (((i2.setCell ⟨b3,0,none⟩ (.int .i64 ((rd_T23 l1 b0).f0))).setCell ⟨b3,1,none⟩ (.int .i64 ((rd_T23 l1 b0).f1))).heap[b3]? = some (.cells #[.int .i64 ((rd_T23 l1 b0).f0),.int .i64 ((rd_T23 l1 b0).f1)] 23 (0,0))):=⟨by (with_reducible repeat (first | refine blk_drewN ?_ _ | refine blk_drew ?_ | refine blk_alloc ?_ _));refine blk_put (cs:=#[.int .i64 ((rd_T23 l1 b0).f0),.int .i64 0]) ?_ 1 _ rfl;(with_reducible repeat (first | refine blk_drewN ?_ _ | refine blk_drew ?_ | refine blk_alloc ?_ _));refine blk_put (cs:=#[.int .i64 0,.int .i64 0]) ?_ 0 _ rfl;(with_reducible repeat (first | refine blk_drewN ?_ _ | refine blk_drew ?_ | refine blk_alloc ?_ _));exact b2.out⟩
    have h0:Aside0 (Below w.heap.size w ((i2.setCell ⟨b3,0,none⟩ (.int .i64 ((rd_T23 l1 b0).f0))).setCell ⟨b3,1,none⟩ (.int .i64 ((rd_T23 l1 b0).f1)))):=⟨bl HB⟩
    generalize ((i2.setCell ⟨b3,0,none⟩ (.int .i64 ((rd_T23 l1 b0).f0))).setCell ⟨b3,1,none⟩ (.int .i64 ((rd_T23 l1 b0).f1))) = r2 at e8 e9 h0 ⊢
    have b1:=e8
    have b2:=e9
    have HB:=h0
    clear e8 e9 h0
    replace b1:=kD b1
    replace b2:=kD b2
    replace HB:=bD HB
    refine st 23 (fun w'=>w'.cell? ⟨b3,0,none⟩ = some (.int .i64 ((rd_T23 l1 b0).f0)) ∧ w'.cell? ⟨b3,1,none⟩ = some (.int .i64 ((rd_T23 l1 b0).f1))) [] shares_claims_isAward.tab6 shares_claims_isAward.bits6 (fun hHeld HT_ HW_=>?_)
    generalize r2.drew = r9 at b1 b2 HB hHeld ⊢
    refine pq 0 20 1 HT_ ?_
    refine tq 1 21 3 HT_ HW_ hHeld ?_
    refine oq 2 22 7 HT_ (fun K hK=>?_)
    refine gq Try.func92 #[.int .i64 ((rd_T23 l1 b0).f1),.int .i64 1,.int .i64 20] ?_
    with_reducible refine (shares_within.calls ((rd_T23 l1 b0).f1) 1 20 true _ A9.out).mono ?_
    rintro e w' ⟨rfl,⟨nd,rfl⟩⟩
    refine ⟨_,rfl,?_⟩
    refine hz hK (fun hHeld=>?_)
    clear hK K
    refine nq 22 ?_
    refine pq 3 23 15 HT_ ?_
    refine pq 4 24 31 HT_ ?_
    refine tq 5 25 63 HT_ HW_ hHeld ?_
    refine oq 6 26 127 HT_ (fun K hK=>?_)
    refine gq Try.func112 #[.agg #[.int .i64 ((rd_T23 l1 b0).f0),.int .i64 ((rd_T23 l1 b0).f1)]] ?_
    with_reducible refine (shares_isValid.calls k1 ((rd_T23 l1 b0).f0) ((rd_T23 l1 b0).f1) false _ o4.out).mono ?_
    rintro e s0 ⟨rfl,hb⟩
    refine ⟨_,rfl,?_⟩
    replace b1:=kB b1 hb
    replace b2:=kB b2 hb
    replace HB:=bB HB hb
    (try clear hb)
    refine hz hK (fun hHeld=>?_)
    clear hK K
    refine nq 26 ?_
    refine pq 7 27 255 HT_ ?_
    refine pq 8 28 511 HT_ ?_
    refine pq 9 29 1023 HT_ ?_
    refine pu 10 30 2047 HT_ ?_
    refine pu 11 31 4095 HT_ ?_
    refine pu 12 32 8191 HT_ ?_
    refine pu 13 33 16383 HT_ ?_
    refine pu 14 34 32767 HT_ ?_
    refine pu 15 35 65535 HT_ ?_
    refine pu 16 36 131071 HT_ ?_
    refine pu 17 37 262143 HT_ ?_
    refine pu 18 38 524287 HT_ ?_
    refine pu 19 39 1048575 HT_ ?_
    refine pu 20 40 2097151 HT_ ?_
    refine pu 21 41 4194303 HT_ ?_
    refine pq 22 42 8388607 HT_ ?_
    refine done_ (done_of HT_.out (by kernel_rfl)) ?_
    try go_wp2
    go_ret
    exact ⟨by first | rfl | (simp [errW_none,errW_some] <;> rfl) | (simp [*,errW_none,errW_some] <;> rfl),bl HB⟩
   subst m1
   rw [if_pos rfl] at H
   replace H:=gd H
   obtain ⟨p6,H⟩:=H
   have p7:=decide_eq_true p6
   clear p6
   replace H:=Option.bind_eq_some_iff.mp H
   obtain ⟨d6,j7,H⟩:=H
   replace H:(if d6 = true then (shares_claims_isAward.l0 k1 l1 l1 (l1.length:Int) (wrap64 (b0 + 1)) b8 d1) else (some false)) = some r:=H
   have p8:=A_ j7
   clear j7
   by_cases m6:d6 = true
   case neg =>
    replace m6:=Bool.eq_false_iff.mpr m6
    subst m6
    rw [if_neg (show ¬ (false = true) by decide)] at H
    obtain rfl:=Option.some.inj H
    have d2:0 ≤ (b0:Int):=of_decide_eq_true (by first | (with_reducible assumption) | assumption)
    have d3:b0 < (l1.length:Int):=of_decide_eq_true (by first | (with_reducible assumption) | assumption)
    obtain ⟨e6,d9,b6,b7⟩:=at_T23 i5.out b0 d2 d3
    cases d9
    replace b6:=(HB.out.cell (World.block_lt_of_cell? w _ b6)).trans b6
    replace b7:=(HB.out.cell (World.block_lt_of_cell? w _ b7)).trans b7
    replace d2:=eq_true d2
    replace d3:=eq_true d3
    try go_wp2_with (first | ((with_reducible refine gate_dst (N:=6) rfl ?_);refine bx 6 #[.int .i64 0,.int .i64 0] 23 ?_;intro b3 hg i3 hbox hb;have b2:=A_ hbox;have d4:=gw hg HB;have e7:=d4;have b4:=nl hg b1;have b9:=ng hg b1;replace b1:=kB b1 hb;replace HB:=bB HB hb;clear hb hbox hg;have p9:=b9.out;have q0:=b4.out;have m7:i3.cell? ⟨b3,0,none⟩ = some (.int .i64 0):=cz b2 0;have m8:i3.cell? ⟨b3,1,none⟩ = some (.int .i64 0):=cz b2 1;have m9:=blk_frozen b2.out 0;have n0:=blk_frozen b2.out 1))
    have e8:Aside0 (((i3.setCell ⟨b3,0,none⟩ (.int .i64 ((rd_T23 l1 b0).f0))).setCell ⟨b3,1,none⟩ (.int .i64 ((rd_T23 l1 b0).f1))).heap[d0]? = some (.cells #[.slice d7 b8.length d5,.int .i64 d1] 94 (0,0))):=⟨by (with_reducible repeat (first | refine blk_drewN ?_ _ | refine blk_drew ?_ | refine blk_alloc ?_ _));refine blk_far ?_ b4.out _;(with_reducible repeat (first | refine blk_drewN ?_ _ | refine blk_drew ?_ | refine blk_alloc ?_ _));refine blk_far ?_ b4.out _;(with_reducible repeat (first | refine blk_drewN ?_ _ | refine blk_drew ?_ | refine blk_alloc ?_ _));exact b1.out⟩
    have e9:Aside0 (((i3.setCell ⟨b3,0,none⟩ (.int .i64 ((rd_T23 l1 b0).f0))).setCell ⟨b3,1,none⟩ (.int .i64 ((rd_T23 l1 b0).f1))).heap[b3]? = some (.cells #[.int .i64 ((rd_T23 l1 b0).f0),.int .i64 ((rd_T23 l1 b0).f1)] 23 (0,0))):=⟨by (with_reducible repeat (first | refine blk_drewN ?_ _ | refine blk_drew ?_ | refine blk_alloc ?_ _));refine blk_put (cs:=#[.int .i64 ((rd_T23 l1 b0).f0),.int .i64 0]) ?_ 1 _ rfl;(with_reducible repeat (first | refine blk_drewN ?_ _ | refine blk_drew ?_ | refine blk_alloc ?_ _));refine blk_put (cs:=#[.int .i64 0,.int .i64 0]) ?_ 0 _ rfl;(with_reducible repeat (first | refine blk_drewN ?_ _ | refine blk_drew ?_ | refine blk_alloc ?_ _));exact b2.out⟩
    have h0:Aside0 (Below w.heap.size w ((i3.setCell ⟨b3,0,none⟩ (.int .i64 ((rd_T23 l1 b0).f0))).setCell ⟨b3,1,none⟩ (.int .i64 ((rd_T23 l1 b0).f1)))):=⟨bl HB⟩
    generalize ((i3.setCell ⟨b3,0,none⟩ (.int .i64 ((rd_T23 l1 b0).f0))).setCell ⟨b3,1,none⟩ (.int .i64 ((rd_T23 l1 b0).f1))) = r3 at e8 e9 h0 ⊢
    have b1:=e8
    have b2:=e9
    have HB:=h0
    clear e8 e9 h0
    replace b1:=kD b1
    replace b2:=kD b2
    replace HB:=bD HB
    have e0:0 ≤ (b0:Int):=of_decide_eq_true (by first | (with_reducible assumption) | assumption)
    have e1:b0 < (b8.length:Int):=of_decide_eq_true (by first | (with_reducible assumption) | assumption)
    obtain ⟨e2,h5,c0⟩:=Kd.at_int h8.out b0 e0 e1
    have b5:=c0
    cases h5
    replace c0:=(HB.out.cell (World.block_lt_of_cell? w _ c0)).trans c0
    replace e0:=eq_true e0
    replace e1:=eq_true e1
    refine start_ (n:=23) (S:=fun w'=>w'.cell? ⟨b3,0,none⟩ = some (.int .i64 ((rd_T23 l1 b0).f0)) ∧ w'.cell? ⟨b3,1,none⟩ = some (.int .i64 ((rd_T23 l1 b0).f1)) ∧ w'.cell? ⟨d0,0,none⟩ = some (.slice (some e2) b8.length d5) ∧ w'.cell? ⟨d0,1,none⟩ = some (.int .i64 d1) ∧ w'.cell? (e2.add (b0).toNat) = some (.int .i64 (rd b8 b0))) (ds:=[]) (ba 23 0) (by kernel_rfl) rfl rfl ⟨cz b2 0,cz b2 1,cz b1 0,cz b1 1,((HB.out.cell (World.block_lt_of_cell? w _ b5)).trans b5)⟩ (fun hHeld=>?_);refine with_tabW shares_claims_isAward.tab6 shares_claims_isAward.bits6 (fun HT_ HW_=>?_)
    generalize r3.drew = s1 at b1 b2 HB c0 hHeld ⊢
    refine pq 0 20 1 HT_ ?_
    refine tq 1 21 3 HT_ HW_ hHeld ?_
    refine oq 2 22 7 HT_ (fun K hK=>?_)
    refine gq Try.func92 #[.int .i64 ((rd_T23 l1 b0).f1),.int .i64 1,.int .i64 20] ?_
    with_reducible refine (shares_within.calls ((rd_T23 l1 b0).f1) 1 20 true _ A9.out).mono ?_
    rintro e w' ⟨rfl,⟨nd,rfl⟩⟩
    refine ⟨_,rfl,?_⟩
    refine hK.out _ _ ⟨cz b2 0,cz b2 1,cz b1 0,cz b1 1,((HB.out.cell (World.block_lt_of_cell? w _ b5)).trans b5)⟩ (fun hHeld=>?_)
    clear hK K
    refine nq 22 ?_
    refine pq 3 23 15 HT_ ?_
    refine pq 4 24 31 HT_ ?_
    refine tq 5 25 63 HT_ HW_ hHeld ?_
    refine oq 6 26 127 HT_ (fun K hK=>?_)
    refine gq Try.func112 #[.agg #[.int .i64 ((rd_T23 l1 b0).f0),.int .i64 ((rd_T23 l1 b0).f1)]] ?_
    with_reducible refine (shares_isValid.calls k1 ((rd_T23 l1 b0).f0) ((rd_T23 l1 b0).f1) true _ o4.out).mono ?_
    rintro e s2 ⟨rfl,hb⟩
    refine ⟨_,rfl,?_⟩
    replace b1:=kB b1 hb
    replace b2:=kB b2 hb
    replace HB:=bB HB hb
    (try clear hb)
    refine hK.out _ _ ⟨cz b2 0,cz b2 1,cz b1 0,cz b1 1,((HB.out.cell (World.block_lt_of_cell? w _ b5)).trans b5)⟩ (fun hHeld=>?_)
    clear hK K
    refine nq 26 ?_
    refine pq 7 27 255 HT_ ?_
    refine pq 8 28 511 HT_ ?_
    refine pq 9 29 1023 HT_ ?_
    refine pq 10 30 2047 HT_ ?_
    refine pq 12 32 6143 HT_ ?_
    refine pq 14 34 22527 HT_ ?_
    refine pq 17 37 153599 HT_ ?_
    refine tq 11 31 155647 HT_ HW_ hHeld ?_
    refine tq 13 33 163839 HT_ HW_ hHeld ?_
    refine pq 15 35 196607 HT_ ?_
    refine tq 16 36 262143 HT_ HW_ hHeld ?_
    refine tq 18 38 524287 HT_ HW_ hHeld ?_
    refine pq 19 39 1048575 HT_ ?_
    refine oq 20 40 2097151 HT_ (fun K hK=>?_)
    refine gq Try.func92 #[.int .i64 ((rd_T23 l1 b0).f0),.int .i64 0,.int .i64 (wrap64 ((rd b8 b0) * ((rd_T23 l1 b0).f1)))] ?_
    with_reducible refine (shares_within.calls ((rd_T23 l1 b0).f0) 0 (wrap64 ((rd b8 b0) * ((rd_T23 l1 b0).f1))) false _ p8.out).mono ?_
    rintro e w' ⟨rfl,⟨nd,rfl⟩⟩
    refine ⟨_,rfl,?_⟩
    refine hK.out _ _ ⟨cz b2 0,cz b2 1,cz b1 0,cz b1 1,((HB.out.cell (World.block_lt_of_cell? w _ b5)).trans b5)⟩ (fun hHeld=>?_)
    clear hK K
    refine nq 40 ?_
    refine pq 21 41 4194303 HT_ ?_
    refine pq 22 42 8388607 HT_ ?_
    refine done_ (done_of HT_.out (by kernel_rfl)) ?_
    try go_wp2
    go_ret
    exact ⟨by first | rfl | (simp [errW_none,errW_some] <;> rfl) | (simp [*,errW_none,errW_some] <;> rfl),bl HB⟩
   subst m6
   rw [if_pos rfl] at H
   have H':=A_ H
   clear H
   have d2:0 ≤ (b0:Int):=of_decide_eq_true (by first | (with_reducible assumption) | assumption)
   have d3:b0 < (l1.length:Int):=of_decide_eq_true (by first | (with_reducible assumption) | assumption)
   obtain ⟨e6,d9,b6,b7⟩:=at_T23 i5.out b0 d2 d3
   cases d9
   replace b6:=(HB.out.cell (World.block_lt_of_cell? w _ b6)).trans b6
   replace b7:=(HB.out.cell (World.block_lt_of_cell? w _ b7)).trans b7
   replace d2:=eq_true d2
   replace d3:=eq_true d3
   try go_wp2_with (first | ((with_reducible refine gate_dst (N:=6) rfl ?_);refine bx 6 #[.int .i64 0,.int .i64 0] 23 ?_;intro b3 hg i4 hbox hb;have b2:=A_ hbox;have d4:=gw hg HB;have e7:=d4;have b4:=nl hg b1;have b9:=ng hg b1;replace b1:=kB b1 hb;replace HB:=bB HB hb;clear hb hbox hg;have q1:=b9.out;have q2:=b4.out;have n1:i4.cell? ⟨b3,0,none⟩ = some (.int .i64 0):=cz b2 0;have n2:i4.cell? ⟨b3,1,none⟩ = some (.int .i64 0):=cz b2 1;have n3:=blk_frozen b2.out 0;have n4:=blk_frozen b2.out 1))
   have e8:Aside0 (((i4.setCell ⟨b3,0,none⟩ (.int .i64 ((rd_T23 l1 b0).f0))).setCell ⟨b3,1,none⟩ (.int .i64 ((rd_T23 l1 b0).f1))).heap[d0]? = some (.cells #[.slice d7 b8.length d5,.int .i64 d1] 94 (0,0))):=⟨by (with_reducible repeat (first | refine blk_drewN ?_ _ | refine blk_drew ?_ | refine blk_alloc ?_ _));refine blk_far ?_ b4.out _;(with_reducible repeat (first | refine blk_drewN ?_ _ | refine blk_drew ?_ | refine blk_alloc ?_ _));refine blk_far ?_ b4.out _;(with_reducible repeat (first | refine blk_drewN ?_ _ | refine blk_drew ?_ | refine blk_alloc ?_ _));exact b1.out⟩
   have e9:Aside0 (((i4.setCell ⟨b3,0,none⟩ (.int .i64 ((rd_T23 l1 b0).f0))).setCell ⟨b3,1,none⟩ (.int .i64 ((rd_T23 l1 b0).f1))).heap[b3]? = some (.cells #[.int .i64 ((rd_T23 l1 b0).f0),.int .i64 ((rd_T23 l1 b0).f1)] 23 (0,0))):=⟨by (with_reducible repeat (first | refine blk_drewN ?_ _ | refine blk_drew ?_ | refine blk_alloc ?_ _));refine blk_put (cs:=#[.int .i64 ((rd_T23 l1 b0).f0),.int .i64 0]) ?_ 1 _ rfl;(with_reducible repeat (first | refine blk_drewN ?_ _ | refine blk_drew ?_ | refine blk_alloc ?_ _));refine blk_put (cs:=#[.int .i64 0,.int .i64 0]) ?_ 0 _ rfl;(with_reducible repeat (first | refine blk_drewN ?_ _ | refine blk_drew ?_ | refine blk_alloc ?_ _));exact b2.out⟩
   have h0:Aside0 (Below w.heap.size w ((i4.setCell ⟨b3,0,none⟩ (.int .i64 ((rd_T23 l1 b0).f0))).setCell ⟨b3,1,none⟩ (.int .i64 ((rd_T23 l1 b0).f1)))):=⟨bl HB⟩
   generalize ((i4.setCell ⟨b3,0,none⟩ (.int .i64 ((rd_T23 l1 b0).f0))).setCell ⟨b3,1,none⟩ (.int .i64 ((rd_T23 l1 b0).f1))) = r4 at e8 e9 h0 ⊢
   have b1:=e8
   have b2:=e9
   have HB:=h0
   clear e8 e9 h0
   replace b1:=kD b1
   replace b2:=kD b2
   replace HB:=bD HB
   have e0:0 ≤ (b0:Int):=of_decide_eq_true (by first | (with_reducible assumption) | assumption)
   have e1:b0 < (b8.length:Int):=of_decide_eq_true (by first | (with_reducible assumption) | assumption)
   obtain ⟨e2,h5,c0⟩:=Kd.at_int h8.out b0 e0 e1
   have b5:=c0
   cases h5
   replace c0:=(HB.out.cell (World.block_lt_of_cell? w _ c0)).trans c0
   replace e0:=eq_true e0
   replace e1:=eq_true e1
   refine start_ (n:=23) (S:=fun w'=>w'.cell? ⟨b3,0,none⟩ = some (.int .i64 ((rd_T23 l1 b0).f0)) ∧ w'.cell? ⟨b3,1,none⟩ = some (.int .i64 ((rd_T23 l1 b0).f1)) ∧ w'.cell? ⟨d0,0,none⟩ = some (.slice (some e2) b8.length d5) ∧ w'.cell? ⟨d0,1,none⟩ = some (.int .i64 d1) ∧ w'.cell? (e2.add (b0).toNat) = some (.int .i64 (rd b8 b0))) (ds:=[]) (ba 23 0) (by kernel_rfl) rfl rfl ⟨cz b2 0,cz b2 1,cz b1 0,cz b1 1,((HB.out.cell (World.block_lt_of_cell? w _ b5)).trans b5)⟩ (fun hHeld=>?_);refine with_tabW shares_claims_isAward.tab6 shares_claims_isAward.bits6 (fun HT_ HW_=>?_)
   generalize r4.drew = s3 at b1 b2 HB c0 hHeld ⊢
   refine pq 0 20 1 HT_ ?_
   refine tq 1 21 3 HT_ HW_ hHeld ?_
   refine oq 2 22 7 HT_ (fun K hK=>?_)
   refine gq Try.func92 #[.int .i64 ((rd_T23 l1 b0).f1),.int .i64 1,.int .i64 20] ?_
   with_reducible refine (shares_within.calls ((rd_T23 l1 b0).f1) 1 20 true _ A9.out).mono ?_
   rintro e w' ⟨rfl,⟨nd,rfl⟩⟩
   refine ⟨_,rfl,?_⟩
   refine hK.out _ _ ⟨cz b2 0,cz b2 1,cz b1 0,cz b1 1,((HB.out.cell (World.block_lt_of_cell? w _ b5)).trans b5)⟩ (fun hHeld=>?_)
   clear hK K
   refine nq 22 ?_
   refine pq 3 23 15 HT_ ?_
   refine pq 4 24 31 HT_ ?_
   refine tq 5 25 63 HT_ HW_ hHeld ?_
   refine oq 6 26 127 HT_ (fun K hK=>?_)
   refine gq Try.func112 #[.agg #[.int .i64 ((rd_T23 l1 b0).f0),.int .i64 ((rd_T23 l1 b0).f1)]] ?_
   with_reducible refine (shares_isValid.calls k1 ((rd_T23 l1 b0).f0) ((rd_T23 l1 b0).f1) true _ o4.out).mono ?_
   rintro e s4 ⟨rfl,hb⟩
   refine ⟨_,rfl,?_⟩
   replace b1:=kB b1 hb
   replace b2:=kB b2 hb
   replace HB:=bB HB hb
   (try clear hb)
   refine hK.out _ _ ⟨cz b2 0,cz b2 1,cz b1 0,cz b1 1,((HB.out.cell (World.block_lt_of_cell? w _ b5)).trans b5)⟩ (fun hHeld=>?_)
   clear hK K
   refine nq 26 ?_
   refine pq 7 27 255 HT_ ?_
   refine pq 8 28 511 HT_ ?_
   refine pq 9 29 1023 HT_ ?_
   refine pq 10 30 2047 HT_ ?_
   refine pq 12 32 6143 HT_ ?_
   refine pq 14 34 22527 HT_ ?_
   refine pq 17 37 153599 HT_ ?_
   refine tq 11 31 155647 HT_ HW_ hHeld ?_
   refine tq 13 33 163839 HT_ HW_ hHeld ?_
   refine pq 15 35 196607 HT_ ?_
   refine tq 16 36 262143 HT_ HW_ hHeld ?_
   refine tq 18 38 524287 HT_ HW_ hHeld ?_
   refine pq 19 39 1048575 HT_ ?_
   refine oq 20 40 2097151 HT_ (fun K hK=>?_)
   refine gq Try.func92 #[.int .i64 ((rd_T23 l1 b0).f0),.int .i64 0,.int .i64 (wrap64 ((rd b8 b0) * ((rd_T23 l1 b0).f1)))] ?_
   with_reducible refine (shares_within.calls ((rd_T23 l1 b0).f0) 0 (wrap64 ((rd b8 b0) * ((rd_T23 l1 b0).f1))) true _ p8.out).mono ?_
   rintro e w' ⟨rfl,⟨nd,rfl⟩⟩
   refine ⟨_,rfl,?_⟩
   refine hK.out _ _ ⟨cz b2 0,cz b2 1,cz b1 0,cz b1 1,((HB.out.cell (World.block_lt_of_cell? w _ b5)).trans b5)⟩ (fun hHeld=>?_)
   clear hK K
   refine nq 40 ?_
   refine pq 21 41 4194303 HT_ ?_
   refine pq 22 42 8388607 HT_ ?_
   refine done_ (done_of HT_.out (by kernel_rfl)) ?_
   try go_wp2
   go_roundg k1
   case measure=>have:=p0.out;omega
   case rel=>exact ⟨(wrap64 (b0 + 1)),(by first | rfl | (simp;done) | (simp [*];done)),H',⟨by have:=p0.out;omega⟩,⟨by (with_reducible repeat (first | refine blk_drewN ?_ _ | refine blk_drew ?_ | refine blk_alloc ?_ _));exact b1.out⟩,⟨bl HB⟩⟩
end Go.Proofs.Ytjohcjfmlhihbaa.G
namespace Go.Proofs.Ytjohcjfmlhihbaa.G
open Go.RowKit Go.Proofs.YtjohcjfmlhihbaaW.PrintWords Go.Proofs.YtjohcjfmlhihbaaW.PrintLast Go.Proofs.YtjohcjfmlhihbaaW.PrintMore
set_option maxHeartbeats 8000000
set_option maxRecDepth 100000
attribute [local go_sem] cond_true cond_false fld23_0 fld23_1 fld45_0 fld45_1 fld109_0 fld109_1 fld94_0 fld94_1 max2_int min2_int max_two min_two max_three min_three max_four min_four
attribute [local go_sem high] eqA23
def numnahref07_Divides.l0:Nat → List Int → Int → List (S23) → Int → Int → Int → Option (Bool)
 | 0,_,_,_,_,_,_=>none
 | k + 1,x0,x1,x2,x8,e9,h0=>if x8 < (x0.length:Int) then (if 0 ≤ x8 then (if x8 < (x2.length:Int) then ((numnahref07_Within.f k ((rd_T23 x2 x8).f0) ((rd_T23 x2 x8).f1) 0 20000 20).bind fun h6=>(if h6 = true then ((numnahref07_Whole.f (rd x0 x8)).bind fun e0=>((numnahref07_Less.f e0.1 e0.2 ((rd_T23 x2 x8).f0) ((rd_T23 x2 x8).f1)).bind fun e6=>(if e6 = true then (some false) else ((numnahref07_Add.f k e9 h0 ((rd_T23 x2 x8).f0) ((rd_T23 x2 x8).f1)).bind fun d5=>(numnahref07_Divides.l0 k x0 x1 x2 (wrap64 (x8 + 1)) d5.1 d5.2))))) else (some false))) else (none)) else (none)) else ((numnahref07_Whole.f x1).bind fun h7=>(some (e9 == h7.1 && (h0 == h7.2))))
def numnahref07_Divides.f (k:Nat) (l0:List Int) (a1:Int) (l2:List (S23)):Option (Bool):=if (l2.length:Int) = (l0.length:Int) then ((numnahref07_Whole.f 0).bind fun e1=>(numnahref07_Divides.l0 k l0 a1 l2 0 e1.1 e1.2)) else (some false)
theorem numnahref07_Divides.mono_l:∀ k,(∀ y0 y1 y2 y3 y4 y5,LeO (numnahref07_Divides.l0 k y0 y1 y2 y3 y4 y5) (numnahref07_Divides.l0 (k + 1) y0 y1 y2 y3 y4 y5))
 | 0=>fun _ _ _ _ _ _ r h=>by simp [numnahref07_Divides.l0] at h
 | k + 1=>by
  have l7:=numnahref07_Divides.mono_l k
  intro y0 y1 y2 y3 y4 y5
  unfold numnahref07_Divides.l0
  repeat' first
  | (with_reducible first | exact l7 _ _ _ _ _ _ | exact numnahref07_Add.mono _ _ _ _ _ | exact numnahref07_Within.mono _ _ _ _ _ _ | exact LeO.refl _ | exact LeO.none _ | refine LeO.ite ?_ ?_ | refine LeO.bind ?_ (fun _=>?_))
  | exact LeO.none _ | refine LeO.ite ?_ ?_ | refine LeO.bind ?_ (fun _=>?_)
theorem numnahref07_Divides.mono:∀ a0 a1 a2 k,LeO (numnahref07_Divides.f k a0 a1 a2) (numnahref07_Divides.f (k + 1) a0 a1 a2):=by
 intro a0 a1 a2 k
 have l7:=numnahref07_Divides.mono_l k
 unfold numnahref07_Divides.f
 repeat' first
   | (with_reducible first | exact l7 _ _ _ _ _ _ | exact numnahref07_Add.mono _ _ _ _ _ | exact numnahref07_Within.mono _ _ _ _ _ _ | exact LeO.refl _ | exact LeO.none _ | refine LeO.ite ?_ ?_ | refine LeO.bind ?_ (fun _=>?_))
   | exact LeO.none _ | refine LeO.ite ?_ ?_ | refine LeO.bind ?_ (fun _=>?_)
def numnahref07_Divides.T7:Bool × List (List Nat × List Nat):=(true,[([],[]),([],[]),([0,1],[0,1]),([2],[2]),([3],[3]),([4],[4]),([5,4],[5]),([6],[6]),([6],[6]),([7,8,6],[6,7,8]),([9,6],[6,9]),([10,6,6],[6,10]),([6],[6]),([6],[6]),([12,13,6],[6,12,13]),([14,6],[6,14]),([11,15,11,6],[6,11,15]),([6,16],[6,16])])
def numnahref07_Divides.B7:List Nat:=[0,0,3,7,15,31,63,127,127,511,1023,2047,127,127,12415,28799,65535,131071]
theorem numnahref07_Divides.tab7:rtab .any (opsOf Try.f55 7) = numnahref07_Divides.T7:=by kernel_rfl
theorem numnahref07_Divides.bits7:waitsOk numnahref07_Divides.T7.2 numnahref07_Divides.B7 = true:=by kernel_rfl
theorem numnahref07_Divides.calls (k:Nat) (A0:Option Addr) (c0:Nat) (l0:List Int) (a1:Int) (A2:Option Addr) (c2:Nat) (l2:List (S23)) (r:Bool) (w:World) (m8:Kd.C (Kd.int .i64) w A0 l0.length l0) (m9:l0.length ≤ c0) (n0:Kd.C k23 w A2 l2.length l2) (n1:l2.length ≤ c2) (h:numnahref07_Divides.f k l0 a1 l2 = some r) :
  Calls Try.prog 55 #[.slice A0 l0.length c0,.int .i64 a1,.slice A2 l2.length c2] w fun e w'=>e = .returned (.bool r) ∧ Below w.heap.size w w':=by
 have o2:=Try.underlying23
 have n2:=A_ m8
 have o8:=A_ m9
 clear m8 m9
 have i8:=A_ n0
 have o9:=A_ n1
 clear n0 n1
 have HB:=A_ (Below.refl w.heap.size w)
 have H:(if (l2.length:Int) = (l0.length:Int) then ((numnahref07_Whole.f 0).bind fun e1=>(numnahref07_Divides.l0 k l0 a1 l2 0 e1.1 e1.2)) else (some false)) = some r:=h
 clear h
 by_cases c4:(l2.length:Int) = (l0.length:Int)
 case neg =>
  rw [if_neg c4] at H
  have l8:((l2.length:Int) == (l0.length:Int)) = false:=beq_eq_false_iff_ne.mpr c4
  have l9:((l2.length:Int) != (l0.length:Int)) = true:=bne_iff_ne.mpr c4
  have m0:(l2.length == l0.length) = false:=by first | simpa using c4 | (simp at c4 ⊢;omega)
  obtain rfl:=Option.some.inj H
  go_enter Try.func55,Try.ntmps55
  go_wp2
  go_ret
  exact ⟨by first | rfl | (simp [errW_none,errW_some] <;> rfl) | (simp [*,errW_none,errW_some] <;> rfl),bl HB⟩
 rw [if_pos c4] at H
 have l8:((l2.length:Int) == (l0.length:Int)) = true:=beq_iff_eq.mpr c4
 have l9:((l2.length:Int) != (l0.length:Int)) = false:=bne_eq_false_iff_eq.mpr c4
 have m0:(l2.length == l0.length) = true:=by first | simpa using c4 | (simp at c4 ⊢;omega)
 clear c4
 replace H:=Option.bind_eq_some_iff.mp H
 obtain ⟨⟨h8,i4⟩,A50,H⟩:=H
 dsimp only at H
 have A5:=A_ A50
 clear A50
 have H':=A_ H
 clear H
 go_enter Try.func55,Try.ntmps55
 go_wp2_with (first | ((with_reducible refine gate_callee (f:=23) rfl ?_);refine gL (some 14) Try.func23 #[.int .i64 0] ?_;(with_reducible refine (numnahref07_Whole.calls 0 h8 i4 _ A5.out).mono ?_);rintro e w6 ⟨rfl,hb⟩;refine ⟨_,rfl,?_⟩;replace HB:=bB HB hb;(try clear hb)) | ((with_reducible refine gate_dst (N:=7) rfl ?_);refine bx 7 #[.int .i64 0,.int .i64 0] 23 ?_;intro d4 hg w7 hbox hb;have b0:=A_ hbox;have i6:=gw hg HB;have m1:=i6;replace HB:=bB HB hb;clear hb hbox hg;have m2:w7.cell? ⟨d4,0,none⟩ = some (.int .i64 0):=cz b0 0;have m3:w7.cell? ⟨d4,1,none⟩ = some (.int .i64 0):=cz b0 1;have m4:=blk_frozen b0.out 0;have m5:=blk_frozen b0.out 1))
 go_loopg [8] k (fun kq v8 w'=>∃ (b1:Int) (b3:Int) (b2:Int),v8 = .int .i64 b1 ∧ Aside0 (numnahref07_Divides.l0 kq l0 a1 l2 b1 b3 b2 = some r) ∧ Aside0 (kq ≤ k) ∧ Aside0 (w'.heap[d4]? = some (.cells #[.int .i64 b3,.int .i64 b2] 23 (0,0))) ∧ Aside0 (Below w.heap.size w w'))
 case atStart=>exact ⟨(0),(h8),(i4),rf_,H',⟨Nat.le_refl _⟩,⟨by (with_reducible repeat (first | refine blk_drewN ?_ _ | refine blk_drew ?_ | refine blk_alloc ?_ _));refine blk_put (cs:=#[.int .i64 h8,.int .i64 0]) ?_ 1 _ rfl;(with_reducible repeat (first | refine blk_drewN ?_ _ | refine blk_drew ?_ | refine blk_alloc ?_ _));refine blk_put (cs:=#[.int .i64 0,.int .i64 0]) ?_ 0 _ rfl;(with_reducible repeat (first | refine blk_drewN ?_ _ | refine blk_drew ?_ | refine blk_alloc ?_ _));exact b0.out⟩,⟨bl HB⟩⟩
 case round =>
  clear H'
  obtain ⟨b1,b3,b2,rfl,HA,n3,b0,HB⟩:=hrel
  cases gk with
  | zero=>exact absurd HA.out (by simp [numnahref07_Divides.l0])
  | succ k1 =>
   have H:=HA.out
   clear HA
   simp only [numnahref07_Divides.l0] at H
   by_cases c9:b1 < (l0.length:Int)
   case neg =>
    rw [if_neg c9] at H
    have m6:=decide_eq_false c9
    clear c9
    replace H:=Option.bind_eq_some_iff.mp H
    obtain ⟨⟨i9,j5⟩,A320,H⟩:=H
    dsimp only at H
    have o3:=A_ A320
    clear A320
    obtain rfl:=Option.some.inj H
    try go_wp2
    replace b0:=kD b0
    replace HB:=bD HB
    refine start_ (n:=5) (S:=fun w'=>w'.cell? ⟨d4,0,none⟩ = some (.int .i64 b3) ∧ w'.cell? ⟨d4,1,none⟩ = some (.int .i64 b2)) (ds:=[]) (ba 5 0) (by kernel_rfl) rfl rfl ⟨cz b0 0,cz b0 1⟩ (fun hHeld=>?_)
    generalize wr.drew = p0 at b0 HB hHeld ⊢
    refine pr 1 46 2 ?_
    refine tr 0 45 3 hHeld ?_
    refine os 2 47 7 (fun K hK=>?_)
    refine gq Try.func23 #[.int .i64 a1] ?_
    with_reducible refine (numnahref07_Whole.calls a1 i9 j5 _ o3.out).mono ?_
    rintro e p1 ⟨rfl,hb⟩
    refine ⟨_,rfl,?_⟩
    replace b0:=kB b0 hb
    replace HB:=bB HB hb
    (try clear hb)
    refine hz hK (fun hHeld=>?_)
    clear hK K
    refine nq 47 ?_
    refine pr 3 48 15 ?_
    refine pr 4 6 31 ?_
    refine done_ (by kernel_rfl) ?_
    try go_wp2
    go_ret
    exact ⟨by first | rfl | (simp [errW_none,errW_some] <;> rfl) | (simp [*,errW_none,errW_some] <;> rfl),bl HB⟩
   rw [if_pos c9] at H
   have m6:=decide_eq_true c9
   clear c9
   replace H:=gd H
   obtain ⟨c10,H⟩:=H
   have n4:=decide_eq_true c10
   clear c10
   replace H:=gd H
   obtain ⟨n5,H⟩:=H
   have n6:=decide_eq_true n5
   clear n5
   replace H:=Option.bind_eq_some_iff.mp H
   obtain ⟨h6,j7,H⟩:=H
   replace H:(if h6 = true then ((numnahref07_Whole.f (rd l0 b1)).bind fun e0=>((numnahref07_Less.f e0.1 e0.2 ((rd_T23 l2 b1).f0) ((rd_T23 l2 b1).f1)).bind fun e6=>(if e6 = true then (some false) else ((numnahref07_Add.f k1 b3 b2 ((rd_T23 l2 b1).f0) ((rd_T23 l2 b1).f1)).bind fun d5=>(numnahref07_Divides.l0 k1 l0 a1 l2 (wrap64 (b1 + 1)) d5.1 d5.2))))) else (some false)) = some r:=H
   have m7:=A_ j7
   clear j7
   by_cases l5:h6 = true
   case neg =>
    replace l5:=Bool.eq_false_iff.mpr l5
    subst l5
    rw [if_neg (show ¬ (false = true) by decide)] at H
    obtain rfl:=Option.some.inj H
    try go_wp2
    replace b0:=kD b0
    replace HB:=bD HB
    have d6:0 ≤ (b1:Int):=oa_
    have d7:b1 < (l2.length:Int):=oa_
    obtain ⟨b4,h1,b5,b6⟩:=at_T23 i8.out b1 d6 d7
    have b7:=b6
    have b8:=b5
    cases h1
    replace b5:=cT HB b5
    replace b6:=cT HB b6
    replace d6:=eq_true d6
    replace d7:=eq_true d7
    refine start_ (n:=18) (S:=fun w'=>w'.cell? (b4.add ((b1).toNat * 2)) = some (.int .i64 ((rd_T23 l2 b1).f0)) ∧ w'.cell? ⟨(b4.add ((b1).toNat * 2)).block,(b4.add ((b1).toNat * 2)).off + 1,none⟩ = some (.int .i64 ((rd_T23 l2 b1).f1))) (ds:=[]) (ba 18 0) (by kernel_rfl) rfl rfl ⟨(cT HB b8),(cT HB b7)⟩ (fun hHeld=>?_);refine with_tabW numnahref07_Divides.tab7 numnahref07_Divides.bits7 (fun HT_ HW_=>?_)
    generalize wr.drew = p2 at b0 HB b5 b6 hHeld ⊢
    refine pq 0 21 1 HT_ ?_
    refine pq 1 22 3 HT_ ?_
    refine pq 2 23 7 HT_ ?_
    refine tq 3 24 15 HT_ HW_ hHeld ?_
    refine oq 4 25 31 HT_ (fun K hK=>?_)
    refine gq Try.func69 #[.agg #[.int .i64 ((rd_T23 l2 b1).f0),.int .i64 ((rd_T23 l2 b1).f1)],.int .i64 0,.int .i64 20000,.int .i64 20] ?_
    with_reducible refine (numnahref07_Within.calls k1 ((rd_T23 l2 b1).f0) ((rd_T23 l2 b1).f1) 0 20000 20 false _ m7.out).mono ?_
    rintro e p3 ⟨rfl,hb⟩
    refine ⟨_,rfl,?_⟩
    replace b0:=kB b0 hb
    replace HB:=bB HB hb
    (try clear hb)
    refine hK.out _ _ ⟨(cT HB b8),(cT HB b7)⟩ (fun hHeld=>?_)
    clear hK K
    refine nq 25 ?_
    refine pq 5 26 63 HT_ ?_
    refine pq 6 27 127 HT_ ?_
    refine pu 7 28 255 HT_ ?_
    refine pu 8 29 511 HT_ ?_
    refine pu 9 30 1023 HT_ ?_
    refine pu 10 31 2047 HT_ ?_
    refine pu 11 32 4095 HT_ ?_
    refine pu 12 33 8191 HT_ ?_
    refine pu 13 34 16383 HT_ ?_
    refine pu 14 35 32767 HT_ ?_
    refine pu 15 36 65535 HT_ ?_
    refine pu 16 37 131071 HT_ ?_
    refine pq 17 38 262143 HT_ ?_
    refine done_ (done_of HT_.out (by kernel_rfl)) ?_
    try go_wp2
    go_ret
    exact ⟨by first | rfl | (simp [errW_none,errW_some] <;> rfl) | (simp [*,errW_none,errW_some] <;> rfl),bl HB⟩
   subst l5
   rw [if_pos rfl] at H
   replace H:=Option.bind_eq_some_iff.mp H
   obtain ⟨⟨e7,e8⟩,A140,H⟩:=H
   dsimp only at H
   have n7:=A_ A140
   clear A140
   replace H:=Option.bind_eq_some_iff.mp H
   obtain ⟨e6,j8,H⟩:=H
   replace H:(if e6 = true then (some false) else ((numnahref07_Add.f k1 b3 b2 ((rd_T23 l2 b1).f0) ((rd_T23 l2 b1).f1)).bind fun d5=>(numnahref07_Divides.l0 k1 l0 a1 l2 (wrap64 (b1 + 1)) d5.1 d5.2))) = some r:=H
   have n8:=A_ j8
   clear j8
   by_cases l6:e6 = true
   ·subst l6
    rw [if_pos rfl] at H
    obtain rfl:=Option.some.inj H
    try go_wp2
    replace b0:=kD b0
    replace HB:=bD HB
    have d6:0 ≤ (b1:Int):=oa_
    have d7:b1 < (l2.length:Int):=oa_
    obtain ⟨b4,h1,b5,b6⟩:=at_T23 i8.out b1 d6 d7
    have b7:=b6
    have b8:=b5
    cases h1
    replace b5:=cT HB b5
    replace b6:=cT HB b6
    replace d6:=eq_true d6
    replace d7:=eq_true d7
    have e2:0 ≤ (b1:Int):=oa_
    have e3:b1 < (l0.length:Int):=oa_
    obtain ⟨h4,h9,b9⟩:=Kd.at_int n2.out b1 e2 e3
    have c1:=b9
    cases h9
    replace b9:=cT HB b9
    replace e2:=eq_true e2
    replace e3:=eq_true e3
    have e4:0 ≤ (b1:Int):=oa_
    have e5:b1 < (l2.length:Int):=oa_
    obtain ⟨h5,i0,d0,d1⟩:=at_T23 i8.out b1 e4 e5
    have d2:=d1
    have d3:=d0
    obtain rfl:b4 = h5:=(by injection i0)
    replace d0:=cT HB d0
    replace d1:=cT HB d1
    replace e4:=eq_true e4
    replace e5:=eq_true e5
    refine start_ (n:=18) (S:=fun w'=>w'.cell? (b4.add ((b1).toNat * 2)) = some (.int .i64 ((rd_T23 l2 b1).f0)) ∧ w'.cell? ⟨(b4.add ((b1).toNat * 2)).block,(b4.add ((b1).toNat * 2)).off + 1,none⟩ = some (.int .i64 ((rd_T23 l2 b1).f1)) ∧ w'.cell? (h4.add (b1).toNat) = some (.int .i64 (rd l0 b1)) ∧ w'.cell? (b4.add ((b1).toNat * 2)) = some (.int .i64 ((rd_T23 l2 b1).f0)) ∧ w'.cell? ⟨(b4.add ((b1).toNat * 2)).block,(b4.add ((b1).toNat * 2)).off + 1,none⟩ = some (.int .i64 ((rd_T23 l2 b1).f1))) (ds:=[]) (ba 18 0) (by kernel_rfl) rfl rfl ⟨(cT HB b8),(cT HB b7),(cT HB c1),(cT HB d3),(cT HB d2)⟩ (fun hHeld=>?_);refine with_tabW numnahref07_Divides.tab7 numnahref07_Divides.bits7 (fun HT_ HW_=>?_)
    generalize wr.drew = p4 at b0 HB b5 b6 b9 d0 d1 hHeld ⊢
    refine pq 0 21 1 HT_ ?_
    refine pq 1 22 3 HT_ ?_
    refine pq 2 23 7 HT_ ?_
    refine tq 3 24 15 HT_ HW_ hHeld ?_
    refine oq 4 25 31 HT_ (fun K hK=>?_)
    refine gq Try.func69 #[.agg #[.int .i64 ((rd_T23 l2 b1).f0),.int .i64 ((rd_T23 l2 b1).f1)],.int .i64 0,.int .i64 20000,.int .i64 20] ?_
    with_reducible refine (numnahref07_Within.calls k1 ((rd_T23 l2 b1).f0) ((rd_T23 l2 b1).f1) 0 20000 20 true _ m7.out).mono ?_
    rintro e p5 ⟨rfl,hb⟩
    refine ⟨_,rfl,?_⟩
    replace b0:=kB b0 hb
    replace HB:=bB HB hb
    (try clear hb)
    refine hK.out _ _ ⟨(cT HB b8),(cT HB b7),(cT HB c1),(cT HB d3),(cT HB d2)⟩ (fun hHeld=>?_)
    clear hK K
    refine nq 25 ?_
    refine pq 5 26 63 HT_ ?_
    refine pq 6 27 127 HT_ ?_
    refine pq 7 28 255 HT_ ?_
    refine pq 8 29 511 HT_ ?_
    refine pq 9 30 1023 HT_ ?_
    refine pq 12 33 5119 HT_ ?_
    refine pq 13 34 13311 HT_ ?_
    refine pq 14 35 29695 HT_ ?_
    refine tq 10 31 30719 HT_ HW_ hHeld ?_
    refine tq 15 36 63487 HT_ HW_ hHeld ?_
    refine oq 11 32 65535 HT_ (fun K hK=>?_)
    refine gq Try.func23 #[.int .i64 (rd l0 b1)] ?_
    with_reducible refine (numnahref07_Whole.calls (rd l0 b1) e7 e8 _ n7.out).mono ?_
    rintro e p6 ⟨rfl,hb⟩
    refine ⟨_,rfl,?_⟩
    replace b0:=kB b0 hb
    replace HB:=bB HB hb
    (try clear hb)
    refine hK.out _ _ ⟨(cT HB b8),(cT HB b7),(cT HB c1),(cT HB d3),(cT HB d2)⟩ (fun hHeld=>?_)
    clear hK K
    refine nq 32 ?_
    refine oq 16 37 131071 HT_ (fun K hK=>?_)
    refine gq Try.func30 #[.agg #[.int .i64 e7,.int .i64 e8],.agg #[.int .i64 ((rd_T23 l2 b1).f0),.int .i64 ((rd_T23 l2 b1).f1)]] ?_
    with_reducible refine (numnahref07_Less.calls e7 e8 ((rd_T23 l2 b1).f0) ((rd_T23 l2 b1).f1) true _ n8.out).mono ?_
    rintro e p7 ⟨rfl,hb⟩
    refine ⟨_,rfl,?_⟩
    replace b0:=kB b0 hb
    replace HB:=bB HB hb
    (try clear hb)
    refine hK.out _ _ ⟨(cT HB b8),(cT HB b7),(cT HB c1),(cT HB d3),(cT HB d2)⟩ (fun hHeld=>?_)
    clear hK K
    refine nq 37 ?_
    refine pq 17 38 262143 HT_ ?_
    refine done_ (done_of HT_.out (by kernel_rfl)) ?_
    try go_wp2
    go_ret
    exact ⟨by first | rfl | (simp [errW_none,errW_some] <;> rfl) | (simp [*,errW_none,errW_some] <;> rfl),bl HB⟩
   replace l6:=Bool.eq_false_iff.mpr l6
   subst l6
   rw [if_neg (show ¬ (false = true) by decide)] at H
   replace H:=Option.bind_eq_some_iff.mp H
   obtain ⟨⟨i1,i5⟩,A210,H⟩:=H
   dsimp only at H
   have o4:=A_ A210
   clear A210
   have H':=A_ H
   clear H
   try go_wp2
   replace b0:=kD b0
   replace HB:=bD HB
   have d6:0 ≤ (b1:Int):=oa_
   have d7:b1 < (l2.length:Int):=oa_
   obtain ⟨b4,h1,b5,b6⟩:=at_T23 i8.out b1 d6 d7
   have b7:=b6
   have b8:=b5
   cases h1
   replace b5:=cT HB b5
   replace b6:=cT HB b6
   replace d6:=eq_true d6
   replace d7:=eq_true d7
   have e2:0 ≤ (b1:Int):=oa_
   have e3:b1 < (l0.length:Int):=oa_
   obtain ⟨h4,h9,b9⟩:=Kd.at_int n2.out b1 e2 e3
   have c1:=b9
   cases h9
   replace b9:=cT HB b9
   replace e2:=eq_true e2
   replace e3:=eq_true e3
   have e4:0 ≤ (b1:Int):=oa_
   have e5:b1 < (l2.length:Int):=oa_
   obtain ⟨h5,i0,d0,d1⟩:=at_T23 i8.out b1 e4 e5
   have d2:=d1
   have d3:=d0
   obtain rfl:b4 = h5:=(by injection i0)
   replace d0:=cT HB d0
   replace d1:=cT HB d1
   replace e4:=eq_true e4
   replace e5:=eq_true e5
   refine start_ (n:=18) (S:=fun w'=>w'.cell? (b4.add ((b1).toNat * 2)) = some (.int .i64 ((rd_T23 l2 b1).f0)) ∧ w'.cell? ⟨(b4.add ((b1).toNat * 2)).block,(b4.add ((b1).toNat * 2)).off + 1,none⟩ = some (.int .i64 ((rd_T23 l2 b1).f1)) ∧ w'.cell? (h4.add (b1).toNat) = some (.int .i64 (rd l0 b1)) ∧ w'.cell? (b4.add ((b1).toNat * 2)) = some (.int .i64 ((rd_T23 l2 b1).f0)) ∧ w'.cell? ⟨(b4.add ((b1).toNat * 2)).block,(b4.add ((b1).toNat * 2)).off + 1,none⟩ = some (.int .i64 ((rd_T23 l2 b1).f1))) (ds:=[]) (ba 18 0) (by kernel_rfl) rfl rfl ⟨(cT HB b8),(cT HB b7),(cT HB c1),(cT HB d3),(cT HB d2)⟩ (fun hHeld=>?_);refine with_tabW numnahref07_Divides.tab7 numnahref07_Divides.bits7 (fun HT_ HW_=>?_)
   generalize wr.drew = p8 at b0 HB b5 b6 b9 d0 d1 hHeld ⊢
   refine pq 0 21 1 HT_ ?_
   refine pq 1 22 3 HT_ ?_
   refine pq 2 23 7 HT_ ?_
   refine tq 3 24 15 HT_ HW_ hHeld ?_
   refine oq 4 25 31 HT_ (fun K hK=>?_)
   refine gq Try.func69 #[.agg #[.int .i64 ((rd_T23 l2 b1).f0),.int .i64 ((rd_T23 l2 b1).f1)],.int .i64 0,.int .i64 20000,.int .i64 20] ?_
   with_reducible refine (numnahref07_Within.calls k1 ((rd_T23 l2 b1).f0) ((rd_T23 l2 b1).f1) 0 20000 20 true _ m7.out).mono ?_
   rintro e p9 ⟨rfl,hb⟩
   refine ⟨_,rfl,?_⟩
   replace b0:=kB b0 hb
   replace HB:=bB HB hb
   (try clear hb)
   refine hK.out _ _ ⟨(cT HB b8),(cT HB b7),(cT HB c1),(cT HB d3),(cT HB d2)⟩ (fun hHeld=>?_)
   clear hK K
   refine nq 25 ?_
   refine pq 5 26 63 HT_ ?_
   refine pq 6 27 127 HT_ ?_
   refine pq 7 28 255 HT_ ?_
   refine pq 8 29 511 HT_ ?_
   refine pq 9 30 1023 HT_ ?_
   refine pq 12 33 5119 HT_ ?_
   refine pq 13 34 13311 HT_ ?_
   refine pq 14 35 29695 HT_ ?_
   refine tq 10 31 30719 HT_ HW_ hHeld ?_
   refine tq 15 36 63487 HT_ HW_ hHeld ?_
   refine oq 11 32 65535 HT_ (fun K hK=>?_)
   refine gq Try.func23 #[.int .i64 (rd l0 b1)] ?_
   with_reducible refine (numnahref07_Whole.calls (rd l0 b1) e7 e8 _ n7.out).mono ?_
   rintro e q0 ⟨rfl,hb⟩
   refine ⟨_,rfl,?_⟩
   replace b0:=kB b0 hb
   replace HB:=bB HB hb
   (try clear hb)
   refine hK.out _ _ ⟨(cT HB b8),(cT HB b7),(cT HB c1),(cT HB d3),(cT HB d2)⟩ (fun hHeld=>?_)
   clear hK K
   refine nq 32 ?_
   refine oq 16 37 131071 HT_ (fun K hK=>?_)
   refine gq Try.func30 #[.agg #[.int .i64 e7,.int .i64 e8],.agg #[.int .i64 ((rd_T23 l2 b1).f0),.int .i64 ((rd_T23 l2 b1).f1)]] ?_
   with_reducible refine (numnahref07_Less.calls e7 e8 ((rd_T23 l2 b1).f0) ((rd_T23 l2 b1).f1) false _ n8.out).mono ?_
   rintro e o5 ⟨rfl,hb⟩
   refine ⟨_,rfl,?_⟩
   replace b0:=kB b0 hb
   replace HB:=bB HB hb
   (try clear hb)
   refine hK.out _ _ ⟨(cT HB b8),(cT HB b7),(cT HB c1),(cT HB d3),(cT HB d2)⟩ (fun hHeld=>?_)
   clear hK K
   refine nq 37 ?_
   refine pq 17 38 262143 HT_ ?_
   refine done_ (done_of HT_.out (by kernel_rfl)) ?_
   try go_wp2
   replace b0:=kD b0
   replace HB:=bD HB
   have i2:0 ≤ (b1:Int):=oa_
   have i3:b1 < (l2.length:Int):=oa_
   obtain ⟨i7,j9,d8,d9⟩:=at_T23 i8.out b1 i2 i3
   have h2:=d9
   have h3:=d8
   obtain rfl:b4 = i7:=(by injection j9)
   replace d8:=cT HB d8
   replace d9:=cT HB d9
   replace i2:=eq_true i2
   replace i3:=eq_true i3
   refine start_ (n:=7) (S:=fun w'=>w'.cell? ⟨d4,0,none⟩ = some (.int .i64 b3) ∧ w'.cell? ⟨d4,1,none⟩ = some (.int .i64 b2) ∧ w'.cell? (b4.add ((b1).toNat * 2)) = some (.int .i64 ((rd_T23 l2 b1).f0)) ∧ w'.cell? ⟨(b4.add ((b1).toNat * 2)).block,(b4.add ((b1).toNat * 2)).off + 1,none⟩ = some (.int .i64 ((rd_T23 l2 b1).f1))) (ds:=[6]) (ba 7 0) (by kernel_rfl) rfl rfl ⟨cz b0 0,cz b0 1,(cT HB h3),(cT HB h2)⟩ (fun hHeld=>?_)
   generalize o5.drew = q1 at b0 HB d8 d9 hHeld ⊢
   refine pr 1 40 2 ?_
   refine pr 2 41 6 ?_
   refine pr 3 42 14 ?_
   refine tr 0 39 15 hHeld ?_
   refine tr 4 43 31 hHeld ?_
   refine os 5 44 63 (fun K hK=>?_)
   refine gq Try.func28 #[.agg #[.int .i64 b3,.int .i64 b2],.agg #[.int .i64 ((rd_T23 l2 b1).f0),.int .i64 ((rd_T23 l2 b1).f1)]] ?_
   with_reducible refine (numnahref07_Add.calls k1 b3 b2 ((rd_T23 l2 b1).f0) ((rd_T23 l2 b1).f1) i1 i5 _ o4.out).mono ?_
   rintro e n9 ⟨rfl,hb⟩
   refine ⟨_,rfl,?_⟩
   replace b0:=kB b0 hb
   replace HB:=bB HB hb
   (try clear hb)
   refine hK.out _ _ ⟨cz b0 0,cz b0 1,(cT HB h3),(cT HB h2)⟩ (fun hHeld=>?_)
   clear hK K
   refine nq 44 ?_
   refine last_ (i:=6) (N:=none) (ba 7 127) rfl rfl (by kernel_rfl) (by decide) (fun K hK=>?_)
   have o6:n9.cell? ⟨d4,0,none⟩ = some (.int .i64 b3):=cz b0 0
   have o0:=blk_frozen b0.out 0
   have o7:n9.cell? ⟨d4,1,none⟩ = some (.int .i64 b2):=cz b0 1
   have o1:=blk_frozen b0.out 1
   refine skip_ (w1:=?_) (by rfl) rfl ?_ ?_
   rotate_left
   ·go_simp
    rfl
   refine hK.out _ _ ?_
   clear hK K
   refine done_ (by kernel_rfl) ?_
   try go_wp2
   go_roundg k1
   case measure=>have:=n3.out;omega
   case rel=>exact ⟨(wrap64 (b1 + 1)),(i1),(i5),rf_,H',⟨by have:=n3.out;omega⟩,⟨by (with_reducible repeat (first | refine blk_drewN ?_ _ | refine blk_drew ?_ | refine blk_alloc ?_ _));refine blk_put (cs:=#[.int .i64 i1,.int .i64 b2]) ?_ 1 _ rfl;(with_reducible repeat (first | refine blk_drewN ?_ _ | refine blk_drew ?_ | refine blk_alloc ?_ _));refine blk_put (cs:=#[.int .i64 b3,.int .i64 b2]) ?_ 0 _ rfl;(with_reducible repeat (first | refine blk_drewN ?_ _ | refine blk_drew ?_ | refine blk_alloc ?_ _));exact b0.out⟩,⟨bl HB⟩⟩
end Go.Proofs.Ytjohcjfmlhihbaa.G
set_option linter.unusedSectionVars false
namespace Go.Proofs.Ytjohcjfmlhihbaa.P
open Go Go.RowKit Go.Proofs.Ytjohcjfmlhihbaa.G
open Go.Proofs.YtjohcjfmlhihbaaW.PrintWords Go.Proofs.YtjohcjfmlhihbaaW.PrintMore
def inS (w:S23):Prop:=(-9223372036854775808 ≤ w.f0 ∧ w.f0 ≤ 9223372036854775807) ∧ (-9223372036854775808 ≤ w.f1 ∧ w.f1 ≤ 9223372036854775807)
theorem gcd_neg {a:Int} (ha:a < 0) {d:Nat} (hd:0 < d):Ev (fun k=>shares_gcd.f k a (d:Int)) (d:Int):=by
 refine ⟨2,fun k hk=>?_⟩
 obtain ⟨m,rfl⟩:∃ m,k = m + 1 + 1:=⟨k - 2,by omega⟩
 have h0:Int.tmod a (d:Int) ≤ 0:=by
  have:Int.tmod a (d:Int) = -(Int.tmod (-a) (d:Int)):=by rw [Int.neg_tmod,Int.neg_neg]
  rw [this]
  have:=Int.tmod_nonneg (d:Int) (show 0 ≤ -a by omega)
  omega
 show shares_gcd.l0 (m + 1 + 1) a (d:Int) = _
 rw [shares_gcd.l0,if_pos (by omega),if_neg (by omega),shares_gcd.l0,if_neg (by omega)]
theorem ev_valid {n d:Int} (hn:-9223372036854775808 ≤ n ∧ n ≤ 9223372036854775807) (hd:1 ≤ d):∃ b,Ev (fun k=>shares_isValid.f k n d) b ∧ (0 ≤ n → b = decide (Nat.gcd n.natAbs d.toNat = 1)) ∧ (n ≠ -9223372036854775808 → b = decide (Nat.gcd n.natAbs d.toNat = 1)):=by
 obtain ⟨e,rfl⟩:∃ e:Nat,d = (e:Int):=⟨d.toNat,by omega⟩
 unfold shares_isValid.f
 rw [Int.toNat_natCast]
 by_cases h:n = -9223372036854775808
 ·subst h
  have hm:mx (-9223372036854775808) (wrap64 (- -9223372036854775808)) = -9223372036854775808:=by
   have:wrap64 (- -9223372036854775808) = -9223372036854775808:=by unfold wrap64;omega
   rw [this];unfold mx;simp
  refine ⟨((e:Int) == 1),?_,fun h0=>by omega,fun h0=>absurd rfl h0⟩
  refine Ev.congr (fun k=>if_pos (by omega)) ?_
  rw [hm]
  exact Ev.bind (gcd_neg (by omega) (by omega)) (Ev.now _)
 ·refine ⟨decide (Nat.gcd n.natAbs e = 1),?_,fun _=>rfl,fun _=>rfl⟩
  refine Ev.congr (fun k=>if_pos (by omega)) ?_
  rw [mx_abs (by omega)]
  refine Ev.bind (ev_gcd n.natAbs e) ?_
  have:(((Nat.gcd n.natAbs e:Nat):Int) == 1) = decide (Nat.gcd n.natAbs e = 1):=by
   rw [Bool.eq_iff_iff,beq_iff_eq,decide_eq_true_iff];omega
  rw [this]
  exact Ev.now _
theorem within_eq (n lo hi:Int):shares_within.f n lo hi = some (decide (lo ≤ n ∧ n ≤ hi)):=by
 unfold shares_within.f
 by_cases h:n ≥ lo
 ·rw [if_pos h]
  congr 1
  rw [Bool.eq_iff_iff,decide_eq_true_iff,decide_eq_true_iff]
  exact ⟨fun k=>⟨h,k⟩,fun k=>k.2⟩
 ·rw [if_neg h,decide_eq_false (fun k=>h k.1)]
theorem ev_within_any {a:S23} (ha:inS a) {lo hi d:Int} (hlo:-9223372036854775808 < lo):Ev (fun k=>numnahref07_Within.f k a.f0 a.f1 lo hi d) (decide (1 ≤ a.f1 ∧ a.f1 ≤ d ∧ lo ≤ a.f0 ∧ a.f0 ≤ hi ∧ Nat.gcd a.f0.natAbs a.f1.toNat = 1)):=by
 unfold numnahref07_Within.f
 by_cases b1:a.f1 ≥ 1
 ·refine Ev.congr (fun k=>if_pos b1) ?_
  by_cases b2:a.f1 ≤ d
  ·refine Ev.congr (fun k=>if_pos b2) ?_
   by_cases b3:a.f0 ≥ lo
   ·refine Ev.congr (fun k=>if_pos b3) ?_
    by_cases b4:a.f0 ≤ hi
    ·refine Ev.congr (fun k=>if_pos b4) ?_
     have h64:=ha.1
     rw [mx_abs (by omega)]
     obtain ⟨e,he⟩:∃ e:Nat,a.f1 = (e:Int):=⟨a.f1.toNat,by omega⟩
     simp only [ref_gcd,he,Int.toNat_natCast]
     refine Ev.bind (ev_gcd a.f0.natAbs e) ?_
     have:(((Nat.gcd a.f0.natAbs e:Nat):Int) == 1) = decide (1 ≤ (e:Int) ∧ (e:Int) ≤ d ∧ lo ≤ a.f0 ∧ a.f0 ≤ hi ∧ Nat.gcd a.f0.natAbs e = 1):=by
      rw [Bool.eq_iff_iff,beq_iff_eq,decide_eq_true_iff]
      constructor
      ·intro hg;exact ⟨by omega,by omega,b3,b4,by omega⟩
      ·intro hg;omega
     rw [this]
     exact Ev.now _
    ·rw [decide_eq_false (fun k=>b4 k.2.2.2.1)]
     exact Ev.congr (fun k=>if_neg b4) (Ev.now _)
   ·rw [decide_eq_false (fun k=>b3 k.2.2.1)]
    exact Ev.congr (fun k=>if_neg b3) (Ev.now _)
  ·rw [decide_eq_false (fun k=>b2 k.2.1)]
   exact Ev.congr (fun k=>if_neg b2) (Ev.now _)
 ·rw [decide_eq_false (fun k=>b1 k.1)]
  exact Ev.congr (fun k=>if_neg b1) (Ev.now _)
def okW (c:Int) (w:S23):Prop:=1 ≤ w.f1 ∧ w.f1 ≤ 20 ∧ Nat.gcd w.f0.natAbs w.f1.toNat = 1 ∧ 0 ≤ w.f0 ∧ w.f0 ≤ c * w.f1
instance (c:Int) (w:S23):Decidable (okW c w):=by unfold okW;exact inferInstance
theorem okW_q {c:Int} {w:S23} (h:okW c w):∃ q:Rat,w = encQ q ∧ 0 ≤ q ∧ q ≤ (c:Rat) ∧ q.den ≤ 20:=by
 obtain ⟨h1,h2,h3,h4,h5⟩:=h
 obtain ⟨q,q1,q2⟩:=is_valid (n:=w.f0) (d:=w.f1.toNat) (by omega) h3
 refine ⟨q,S23_ext q1.symm (by show w.f1 = (q.den:Int);omega),Rat.num_nonneg.1 (by omega),?_,by omega⟩
 rw [Rat.le_iff,whole_num,whole_den,q1,q2]
 have:((w.f1.toNat:Nat):Int) = w.f1:=by omega
 rw [this];simpa using h5
theorem q_okW {c:Int} {q:Rat} (h0:0 ≤ q) (h1:q ≤ (c:Rat)) (hd:q.den ≤ 20):okW c (encQ q):=by
 have hp:=den_pos q
 refine ⟨?_,?_,?_,Rat.num_nonneg.2 h0,?_⟩
 ·show 1 ≤ (q.den:Int);omega
 ·show (q.den:Int) ≤ 20;omega
 ·exact gcd_one q
 ·rw [Rat.le_iff,whole_num,whole_den] at h1
  have h2:q.num ≤ c * (q.den:Int):=by simpa using h1
  exact h2
structure IsDiv (l:List Int) (E:Int) (x:List Rat):Prop where
 len:x.length = l.length
 ok:∀ i (h1:i < x.length) (h2:i < l.length),0 ≤ x[i] ∧ x[i] ≤ (l[i]:Rat) ∧ x[i].den ≤ 20
 sum:tot x = (E:Rat)
def lcm20:Nat:=232792560
theorem dvd_lcm {d:Nat} (h0:1 ≤ d) (h:d ≤ 20):d ∣ lcm20:=by
 have:∀ d:Fin 20,(d.val + 1) ∣ lcm20:=by decide
 have:=this ⟨d - 1,by omega⟩
 rwa [show d - 1 + 1 = d by omega] at this
section
variable {l:List Int} (h:IsCl l)
theorem part_sm {x:List Rat} (hl:x.length ≤ 11) (hx:∀ q ∈ x,0 ≤ q ∧ q ≤ ((1000:Nat):Rat) ∧ q.den ≤ 20):Sm 2560718160000 232792560 (tot x):=by
 have h0:0 ≤ tot x:=tot_nonneg fun q hq=>(hx q hq).1
 have hd:(tot x).den ≤ lcm20:=Nat.le_of_dvd (by decide) (tot_den (by decide) fun q hq=>dvd_lcm (den_pos q) (hx q hq).2.2)
 have h1:tot x ≤ ((11000:Nat):Rat):=by
  have a1:=tot_le (f:=fun c=>c) (g:=fun _=>((1000:Nat):Rat)) (l:=x) (fun c hc=>(hx c hc).2.1)
  rw [List.map_id',tot_const] at a1
  have a2:((x.length * 1000:Nat):Rat) ≤ ((11000:Nat):Rat):=Rat.natCast_le_natCast.2 (by omega)
  push_cast at a1 a2 ⊢
  exact Rat.le_trans a1 a2
 exact ⟨Nat.le_trans (num_abs h0 h1 hd) (by decide),hd⟩
theorem q_sm {q:Rat} (hq:0 ≤ q ∧ q ≤ ((1000:Nat):Rat) ∧ q.den ≤ 20):Sm 20000 20 q:=⟨Nat.le_trans (num_abs hq.1 hq.2.1 hq.2.2) (by decide),hq.2.2⟩
theorem sum_l0 {x:List Rat} (hl:x.length ≤ 11) (hx:∀ q ∈ x,0 ≤ q ∧ q ≤ ((1000:Nat):Rat) ∧ q.den ≤ 20):∀ (d i:Nat),i + d = x.length → Ev (fun k=>shares_sum.l0 k (encL x) (x.length:Int) (i:Int) (tot (x.take i)).num ((tot (x.take i)).den:Int)) ((tot x).num,((tot x).den:Int)):=by
 intro d
 induction d with
 | zero =>
  intro i hi
  refine Ev.step (f:=fun _=>some ((tot x).num,((tot x).den:Int))) (fun k=>?_) (Ev.now _)
  rw [shares_sum.l0,if_neg (by omega),List.take_of_length_le (by omega)]
 | succ d ih =>
  intro i hi
  have hil:i < x.length:=by omega
  have s1:=part_sm (x:=x.take i) (by rw [List.length_take];omega) (fun q hq=>hx q (List.mem_of_mem_take hq))
  have s2:=q_sm (hx _ (List.getElem_mem hil))
  have e:tot (x.take i) + x[i] = tot (x.take (i + 1)):=by rw [List.take_succ_eq_append_getElem hil,tot_append,tot_cons,tot_nil];grind
  have e1:=ev_add (s1.fits s2 (by decide) (by decide))
  rw [e] at e1
  obtain ⟨K1,e1⟩:=e1
  obtain ⟨K2,e2⟩:=ih (i + 1) (by omega)
  refine ⟨K1 + K2 + 1,fun k hk=>?_⟩
  obtain ⟨m,rfl⟩:∃ m,k = m + 1:=⟨k - 1,by omega⟩
  have f1:=e1 m (by omega)
  have f2:=e2 m (by omega)
  show shares_sum.l0 (m + 1) _ _ _ _ _ = _
  rw [shares_sum.l0,encL_length,if_pos (by omega),if_pos (by omega),if_pos (by omega),rdE hil]
  simp only [encQ,f1,Option.bind_some]
  rw [wrap_succ (by omega)]
  exact f2
theorem ev_sum {x:List Rat} (hl:x.length ≤ 11) (hx:∀ q ∈ x,0 ≤ q ∧ q ≤ ((1000:Nat):Rat) ∧ q.den ≤ 20):Ev (fun k=>shares_sum.f k (encL x)) ((tot x).num,((tot x).den:Int)):=by
 unfold shares_sum.f
 simp only [shares_whole.f,Option.bind_some,encL_length]
 exact sum_l0 hl hx x.length 0 (by omega)
theorem all_x {w:List S23} (hw:w.length = l.length) (hok:∀ i (h1:i < w.length) (h2:i < l.length),okW l[i] w[i]):∃ x,w = encL x ∧ x.length = l.length ∧ ∀ i (h1:i < x.length) (h2:i < l.length),0 ≤ x[i] ∧ x[i] ≤ (l[i]:Rat) ∧ x[i].den ≤ 20:=by
 induction w generalizing l with
 | nil=>exact ⟨[],rfl,hw,fun i h1=>by simp at h1⟩
 | cons a w ih =>
  match l,hw with
  | c :: l,hw =>
   obtain ⟨x,rfl,hx1,hx2⟩:=ih (l:=l) (by simpa using hw) (fun i h1 h2=>by
    have:=hok (i + 1) (by simpa using h1) (by simpa using h2)
    simpa using this)
   obtain ⟨q,rfl,hq⟩:=okW_q (hok 0 (by simp) (by simp))
   refine ⟨q :: x,rfl,by simp [hx1],fun i h1 h2=>?_⟩
   rcases i with _ | i
   ·simpa using hq
   ·simpa using hx2 i (by simpa using h1) (by simpa using h2)
include h
theorem x_small {x:List Rat} (hx1:x.length = l.length) (hx2:∀ i (h1:i < x.length) (h2:i < l.length),0 ≤ x[i] ∧ x[i] ≤ (l[i]:Rat) ∧ x[i].den ≤ 20):∀ q ∈ x,0 ≤ q ∧ q ≤ ((1000:Nat):Rat) ∧ q.den ≤ 20:=by
 intro q hq
 obtain ⟨i,hi,rfl⟩:=List.mem_iff_getElem.1 hq
 obtain ⟨a,b,c⟩:=hx2 i hi (by omega)
 exact ⟨a,Rat.le_trans b (okC_int (h.mem _ (List.getElem_mem (by omega:i < l.length)))).hi,c⟩
theorem isAward_l0 {w:List S23} (hw:w.length = l.length) (hin:∀ a ∈ w,inS a) (E:Int):∀ (d i:Nat),i + d = w.length → (∀ j (h1:j < w.length) (h2:j < l.length),j < i → okW l[j] w[j]) →
  ∃ b:Bool,(b = true ↔ ∃ x,w = encL x ∧ IsDiv l E x) ∧ Ev (fun k=>shares_claims_isAward.l0 k w w (w.length:Int) (i:Int) l E) b:=by
 have hl:=h.ten
 intro d
 induction d with
 | zero =>
  intro i hi hok
  obtain ⟨x,rfl,hx1,hx2⟩:=all_x hw (fun i h1 h2=>hok i h1 h2 (by omega))
  have hxs:=x_small h hx1 hx2
  have hs:=ev_sum (x:=x) (by omega) hxs
  refine ⟨decide (tot x = (E:Rat)),?_,?_⟩
  ·rw [decide_eq_true_iff]
   exact ⟨fun ht=>⟨x,rfl,hx1,hx2,ht⟩,fun ⟨y,hy,hd⟩=>by rw [encL_inj hy];exact hd.sum⟩
  ·refine Ev.step (f:=fun k=>(shares_sum.f k (encL x)).bind fun bt=>(shares_whole.f E).bind fun bt2=>some (bt.1 == bt2.1 && (bt.2 == bt2.2))) (fun k=>?_) (Ev.bind hs ?_)
   ·rw [shares_claims_isAward.l0,if_neg (by omega)]
   ·simp only [shares_whole.f,Option.bind_some]
    have:((tot x).num == E && (((tot x).den:Int) == 1)) = decide (tot x = (E:Rat)):=by
     rw [Bool.eq_iff_iff,Bool.and_eq_true,beq_iff_eq,beq_iff_eq,decide_eq_true_iff]
     constructor
     ·rintro ⟨a,b⟩
      exact Rat.ext (by rw [whole_num];exact a) (by rw [whole_den];omega)
     ·intro e
      rw [e,whole_num,whole_den];exact ⟨rfl,rfl⟩
    rw [this]
    exact Ev.now _
 | succ d ih =>
  intro i hi hok
  have hil:i < w.length:=by omega
  have hil2:i < l.length:=by omega
  have hmi:=h.mem _ (List.getElem_mem hil2)
  have hi64:=hin _ (List.getElem_mem hil)
  have no:¬ okW l[i] w[i] → ¬ ∃ x,w = encL x ∧ IsDiv l E x:=fun hno ⟨x,hx,hd⟩=>by
   apply hno
   have hix:i < x.length:=by rw [hd.len];exact hil2
   have:w[i] = encQ x[i]:=by
    subst hx
    exact encL_get hix
   rw [this]
   obtain ⟨a,b,c⟩:=hd.ok i hix hil2
   exact q_okW a b c
  have start:∀ k,shares_claims_isAward.l0 (k + 1) w w (w.length:Int) (i:Int) l E = if decide (1 ≤ w[i].f1 ∧ w[i].f1 ≤ 20) = true then ((shares_isValid.f k w[i].f0 w[i].f1).bind fun t=>(if t = true then (if decide (0 ≤ w[i].f0 ∧ w[i].f0 ≤ wrap64 (l[i] * w[i].f1)) = true then (shares_claims_isAward.l0 k w w (w.length:Int) ((i + 1:Nat):Int) l E) else (some false)) else (some false))) else (some false):=by
   intro k
   rw [shares_claims_isAward.l0,if_pos (by omega),if_pos (by omega),if_pos (by omega),rdT hil,within_eq]
   simp only [Option.bind_some]
   have e2:(i:Int) < (l.length:Int):=by omega
   simp only [e2,if_true,rd_get hil2,within_eq,Option.bind_some,wrap_succ (show i < 9223372036854775807 by omega)]
  by_cases h1:1 ≤ w[i].f1 ∧ w[i].f1 ≤ 20
  ·obtain ⟨b,hb,hb1,_⟩:=ev_valid hi64.1 h1.1
   have hwr:wrap64 (l[i] * w[i].f1) = l[i] * w[i].f1:=by
    have a1:0 ≤ l[i] * w[i].f1:=Int.mul_nonneg hmi.1 (by omega)
    have a2:l[i] * w[i].f1 ≤ 1000 * 20:=Int.mul_le_mul hmi.2 h1.2 (by omega) (by omega)
    exact wrap_id (by omega) (by omega)
   cases hbv:b with
   | false =>
    refine ⟨false,?_,?_⟩
    ·constructor
     ·intro e;cases e
     ·intro hx
      refine absurd hx (no fun hk=>?_)
      have:=hb1 hk.2.2.2.1
      rw [hbv,decide_eq_true hk.2.2.1] at this
      cases this
    ·rw [hbv] at hb
     refine Ev.step start ?_
     refine Ev.congr (fun k=>if_pos (decide_eq_true h1)) (Ev.bind hb ?_)
     exact Ev.now _
   | true =>
    rw [hbv] at hb
    by_cases h2:0 ≤ w[i].f0 ∧ w[i].f0 ≤ l[i] * w[i].f1
    ·have hg:Nat.gcd w[i].f0.natAbs w[i].f1.toNat = 1:=by
      have:=hb1 h2.1
      rw [hbv] at this
      exact of_decide_eq_true this.symm
     have hk:okW l[i] w[i]:=⟨h1.1,h1.2,hg,h2.1,h2.2⟩
     obtain ⟨b',hb',ev'⟩:=ih (i + 1) (by omega) (fun j j1 j2 hj=>by
      by_cases e:j = i
      ·subst e;exact hk
      ·exact hok j j1 j2 (by omega))
     refine ⟨b',hb',Ev.step start ?_⟩
     refine Ev.congr (fun k=>if_pos (decide_eq_true h1)) (Ev.bind hb ?_)
     simp only [if_true]
     rw [hwr]
     exact Ev.congr (fun k=>if_pos (decide_eq_true h2)) ev'
    ·refine ⟨false,?_,Ev.step start ?_⟩
     ·constructor
      ·intro e;cases e
      ·intro hx
       exact absurd hx (no fun hk=>h2 ⟨hk.2.2.2.1,hk.2.2.2.2⟩)
     ·refine Ev.congr (fun k=>if_pos (decide_eq_true h1)) (Ev.bind hb ?_)
      simp only [if_true]
      rw [hwr]
      exact Ev.congr (fun k=>if_neg (by simpa using h2)) (Ev.now _)
  ·refine ⟨false,?_,Ev.step start (Ev.congr (fun k=>if_neg (by simpa using h1)) (Ev.now _))⟩
   constructor
   ·intro e;cases e
   ·intro hx
    exact absurd hx (no fun hk=>h1 ⟨hk.1,hk.2.1⟩)
theorem ev_isAward {w:List S23} (hin:∀ a ∈ w,inS a) (E:Int):∃ b:Bool,(b = true ↔ ∃ x,w = encL x ∧ IsDiv l E x) ∧ Ev (fun k=>shares_claims_isAward.f k l E w) b:=by
 unfold shares_claims_isAward.f
 by_cases hw:w.length = l.length
 ·obtain ⟨b,h1,h2⟩:=isAward_l0 h hw hin E w.length 0 (by omega) (fun j _ _ hj=>by omega)
  exact ⟨b,h1,Ev.congr (fun k=>if_pos (by omega)) h2⟩
 ·refine ⟨false,?_,Ev.congr (fun k=>if_neg (by omega)) (Ev.now _)⟩
  constructor
  ·intro e;cases e
  ·rintro ⟨x,rfl,hd⟩
   exact absurd (by rw [encL_length];exact hd.len) hw
theorem divides_l0 {w:List S23} (hw:w.length = l.length) (hin:∀ a ∈ w,inS a) (E:Int):∀ (d i:Nat) (y:List Rat),i + d = w.length → y.length = i → (∀ j (h1:j < w.length) (h2:j < l.length),j < i → okW l[j] w[j]) → w.take i = encL y →
  ∃ b:Bool,(b = true ↔ ∃ x,w = encL x ∧ IsDiv l E x) ∧ Ev (fun k=>numnahref07_Divides.l0 k l E w (i:Int) (tot y).num ((tot y).den:Int)) b:=by
 have hl:=h.ten
 intro d
 induction d with
 | zero =>
  intro i y hi hy hok hwy
  rw [List.take_of_length_le (by omega)] at hwy
  obtain ⟨x,hwx,hx1,hx2⟩:=all_x hw (fun i h1 h2=>hok i h1 h2 (by omega))
  obtain rfl:y = x:=encL_inj (hwy.symm.trans hwx)
  refine ⟨decide (tot y = (E:Rat)),?_,?_⟩
  ·rw [decide_eq_true_iff]
   exact ⟨fun ht=>⟨y,hwx,hx1,hx2,ht⟩,fun ⟨z,hz,hd⟩=>by rw [encL_inj (hwx.symm.trans hz)];exact hd.sum⟩
  ·refine Ev.step (f:=fun _=>some (decide (tot y = (E:Rat)))) (fun k=>?_) (Ev.now _)
   rw [numnahref07_Divides.l0,if_neg (by omega)]
   simp only [numnahref07_Whole.f,Option.bind_some]
   congr 1
   rw [Bool.eq_iff_iff,Bool.and_eq_true,beq_iff_eq,beq_iff_eq,decide_eq_true_iff]
   constructor
   ·rintro ⟨a,b⟩
    exact Rat.ext (by rw [whole_num];exact a) (by rw [whole_den];omega)
   ·intro e
    rw [e,whole_num,whole_den];exact ⟨rfl,rfl⟩
 | succ d ih =>
  intro i y hi hy hok hwy
  have hil:i < w.length:=by omega
  have hil2:i < l.length:=by omega
  have hmi:=h.mem _ (List.getElem_mem hil2)
  have hi64:=hin _ (List.getElem_mem hil)
  have no:¬ okW l[i] w[i] → ¬ ∃ x,w = encL x ∧ IsDiv l E x:=fun hno ⟨x,hx,hd⟩=>by
   apply hno
   have hix:i < x.length:=by rw [hd.len];exact hil2
   have:w[i] = encQ x[i]:=by
    subst hx
    exact encL_get hix
   rw [this]
   obtain ⟨a,b,c⟩:=hd.ok i hix hil2
   exact q_okW a b c
  have hwith:=ev_within_any hi64 (lo:=0) (hi:=20000) (d:=20) (by omega)
  have start:∀ k,numnahref07_Divides.l0 (k + 1) l E w (i:Int) (tot y).num ((tot y).den:Int) = (numnahref07_Within.f k w[i].f0 w[i].f1 0 20000 20).bind fun t=>(if t = true then ((numnahref07_Less.f l[i] 1 w[i].f0 w[i].f1).bind fun t2=>(if t2 = true then (some false) else ((numnahref07_Add.f k (tot y).num ((tot y).den:Int) w[i].f0 w[i].f1).bind fun bt=>numnahref07_Divides.l0 k l E w ((i + 1:Nat):Int) bt.1 bt.2))) else some false):=by
   intro k
   rw [numnahref07_Divides.l0,if_pos (by omega),if_pos (by omega),if_pos (by omega),rdT hil]
   simp only [numnahref07_Whole.f,Option.bind_some,rd_get hil2,wrap_succ (show i < 9223372036854775807 by omega)]
  by_cases hW:1 ≤ w[i].f1 ∧ w[i].f1 ≤ 20 ∧ 0 ≤ w[i].f0 ∧ w[i].f0 ≤ 20000 ∧ Nat.gcd w[i].f0.natAbs w[i].f1.toNat = 1
  ·rw [decide_eq_true hW] at hwith
   obtain ⟨b1,b2,b3,b4,b5⟩:=hW
   obtain ⟨q,q1,q2⟩:=is_valid (n:=w[i].f0) (d:=w[i].f1.toNat) (by omega) b5
   have hwq:w[i] = encQ q:=S23_ext q1.symm (by show w[i].f1 = (q.den:Int);omega)
   have q0:0 ≤ q:=Rat.num_nonneg.1 (by omega)
   have qs:Sm 20000 20 q:=⟨by omega,by omega⟩
   have hle:=rless ((Sm.int (n:=l[i]) (A:=1000) (by omega)).fits qs (by decide) (by decide))
   rw [whole_num,whole_den] at hle
   have hle':numnahref07_Less.f l[i] 1 q.num (q.den:Int) = _:=hle
   by_cases hlt:(l[i]:Rat) < q
   ·refine ⟨false,?_,Ev.step start (Ev.bind hwith ?_)⟩
    ·constructor
     ·intro e;cases e
     ·intro hx
      refine absurd hx (no fun hk=>?_)
      obtain ⟨q',hq',_,hqle,_⟩:=okW_q hk
      have:q' = q:=encQ_inj (hq'.symm.trans hwq)
      rw [this] at hqle
      grind
    ·simp only [if_true,hwq,encQ,hle',Option.bind_some]
     exact Ev.congr (fun k=>if_pos (decide_eq_true hlt)) (Ev.now _)
   ·have hqle:q ≤ (l[i]:Rat):=by grind
    have hk:okW l[i] w[i]:=by rw [hwq];exact q_okW q0 hqle (by omega)
    have hyx:∀ z ∈ y,0 ≤ z ∧ z ≤ ((1000:Nat):Rat) ∧ z.den ≤ 20:=by
     intro z hz
     obtain ⟨j,hj,rfl⟩:=List.mem_iff_getElem.1 hz
     have hjw:j < w.length:=by omega
     have e1:w[j] = encQ y[j]:=by
      have a1:(w.take i)[j]'(by rw [List.length_take];omega) = w[j]:=by rw [List.getElem_take]
      rw [← a1]
      simp only [hwy]
      exact encL_get hj
     obtain ⟨q',hq',z0,z1,z2⟩:=okW_q (hok j hjw (by omega) (by omega))
     have:q' = y[j]:=encQ_inj (hq'.symm.trans e1)
     rw [← this]
     exact ⟨z0,Rat.le_trans z1 (okC_int (h.mem _ (List.getElem_mem (by omega:j < l.length)))).hi,z2⟩
    have hadd:=ev_radd ((part_sm (x:=y) (by omega) hyx).fits qs (by decide) (by decide))
    have hty:tot y + q = tot (y ++ [q]):=by rw [tot_append,tot_cons,tot_nil];grind
    rw [hty] at hadd
    obtain ⟨b',hb',ev'⟩:=ih (i + 1) (y ++ [q]) (by omega) (by simp [hy]) (fun j j1 j2 hj=>by
     by_cases e:j = i
     ·subst e;exact hk
     ·exact hok j j1 j2 (by omega)) (by
      rw [List.take_succ_eq_append_getElem hil,hwy,hwq]
      unfold encL
      rw [List.map_append];rfl)
    refine ⟨b',hb',Ev.step start (Ev.bind hwith ?_)⟩
    simp only [if_true,hwq,encQ,hle',Option.bind_some]
    refine Ev.congr (fun k=>if_neg (by simpa using hlt)) (Ev.bind hadd ?_)
    exact ev'
  ·rw [decide_eq_false hW] at hwith
   refine ⟨false,?_,Ev.step start (Ev.bind hwith (Ev.now _))⟩
   constructor
   ·intro e;cases e
   ·intro hx
    refine absurd hx (no fun hk=>hW ⟨hk.1,hk.2.1,hk.2.2.2.1,?_,hk.2.2.1⟩)
    have a2:l[i] * w[i].f1 ≤ 1000 * 20:=Int.mul_le_mul hmi.2 hk.2.1 (by have:=hk.1;omega) (by omega)
    have:=hk.2.2.2.2
    omega
theorem ev_divides {w:List S23} (hin:∀ a ∈ w,inS a) (E:Int):∃ b:Bool,(b = true ↔ ∃ x,w = encL x ∧ IsDiv l E x) ∧ Ev (fun k=>numnahref07_Divides.f k l E w) b:=by
 unfold numnahref07_Divides.f
 by_cases hw:w.length = l.length
 ·obtain ⟨b,h1,h2⟩:=divides_l0 h hw hin E w.length 0 [] (by omega) rfl (fun j _ _ hj=>by omega) rfl
  refine ⟨b,h1,Ev.congr (fun k=>if_pos (by omega)) ?_⟩
  simp only [numnahref07_Whole.f,Option.bind_some]
  exact h2
 ·refine ⟨false,?_,Ev.congr (fun k=>if_neg (by omega)) (Ev.now _)⟩
  constructor
  ·intro e;cases e
  ·rintro ⟨x,rfl,hd⟩
   exact absurd (by rw [encL_length];exact hd.len) hw
end
end Go.Proofs.Ytjohcjfmlhihbaa.P

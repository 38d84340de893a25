/- Several texts, joined. -/
import Derived.SizedLaws
import Derived.ChangeSlices
import Derived.Test.YtjohcjfmlhihbaaQSmallest3
set_option linter.unusedVariables false
set_option linter.unusedSimpArgs false
set_option linter.unusedSectionVars false
namespace Go.Proofs.Ytjohcjfmlhihbaa.P
open Go Go.RowKit Go.Proofs.Ytjohcjfmlhihbaa.G
open Go.Proofs.YtjohcjfmlhihbaaW.PrintWords Go.Proofs.YtjohcjfmlhihbaaW.PrintMore
structure Kp (l:List Int) (α β γ:Rat → Rat) (i:Nat) (s o p q:Rat):Prop where
 s1:∃ c ∈ cl l,s = α c
 s2:∀ j (hj:j < l.length),j < i → s ≤ α (l[j]:Rat)
 o1:∃ c ∈ cl l,o = γ c
 o2:∀ j (hj:j < l.length),j < i → o ≤ γ (l[j]:Rat)
 p1:∃ c ∈ cl l,p = c - β c
 p2:∀ j (hj:j < l.length),j < i → (l[j]:Rat) - β (l[j]:Rat) ≤ p
 q1:∃ c ∈ cl l,q = c - γ c
 q2:∀ j (hj:j < l.length),j < i → (l[j]:Rat) - γ (l[j]:Rat) ≤ q
section
variable {l:List Int} (h:IsCl l) {α β γ:Rat → Rat}
variable (sa:∀ c ∈ cl l,Sm 10000000 10000 (α c)) (sb:∀ c ∈ cl l,Sm 10000000 10000 (β c)) (sc:∀ c ∈ cl l,Sm 10000000 10000 (γ c)) (sb':∀ c ∈ cl l,Sm 10000000 10000 (c - β c)) (sc':∀ c ∈ cl l,Sm 10000000 10000 (c - γ c))
variable (e1:∀ c ∈ cl l,∃ d ∈ cl l,γ d ≤ α c) (e2:∀ c ∈ cl l,∃ d ∈ cl l,c - β c ≤ d - γ d)
include h sa sb sc sb' sc' e1 e2
theorem smallest_l0:∀ (d i:Nat) (s o p q:Rat),i + d = l.length → Kp l α β γ i s o p q →
  Ev (fun k=>numnahlaw07_SharesSmallest.l0 k l (encL ((cl l).map α)) (encL ((cl l).map β)) (encL ((cl l).map γ)) (i:Int) s.num (s.den:Int) o.num (o.den:Int) p.num (p.den:Int) q.num (q.den:Int)) true:=by
 have hl:=h.ten
 have sS:∀ {i s o p q},Kp l α β γ i s o p q → Sm 10000000 10000 s ∧ Sm 10000000 10000 o ∧ Sm 10000000 10000 p ∧ Sm 10000000 10000 q:=fun K=>by
  obtain ⟨c,hc,e⟩:=K.s1
  obtain ⟨c2,hc2,e2⟩:=K.o1
  obtain ⟨c3,hc3,e3⟩:=K.p1
  obtain ⟨c4,hc4,e4⟩:=K.q1
  rw [e,e2,e3,e4]
  exact ⟨sa c hc,sc c2 hc2,sb' c3 hc3,sc' c4 hc4⟩
 intro d
 induction d with
 | zero =>
  intro i s o p q hi K
  obtain ⟨ss,so,sp,sq⟩:=sS K
  have l1:=rless (ss.fits so (by decide) (by decide))
  have l2:=rless (sq.fits sp (by decide) (by decide))
  have n1:¬ s < o:=by
   obtain ⟨c,hc,e⟩:=K.s1
   obtain ⟨d,hd,hle⟩:=e1 c hc
   obtain ⟨n,hn,rfl⟩:=List.mem_map.1 hd
   obtain ⟨j,hj,rfl⟩:=List.mem_iff_getElem.1 hn
   have:=K.o2 j hj (by omega)
   grind
  have n2:¬ q < p:=by
   obtain ⟨c,hc,e⟩:=K.p1
   obtain ⟨d,hd,hle⟩:=e2 c hc
   obtain ⟨n,hn,rfl⟩:=List.mem_map.1 hd
   obtain ⟨j,hj,rfl⟩:=List.mem_iff_getElem.1 hn
   have:=K.q2 j hj (by omega)
   grind
  refine Ev.step (f:=fun k=>(numnahlaw07_awake.f k).bind fun t=>some t) (fun k=>?_) (Ev.bind ev_awake (Ev.now _))
  rw [numnahlaw07_SharesSmallest.l0,if_neg (by omega)]
  simp only [l1,l2,Option.bind_some]
  rw [decide_eq_false n1,if_neg (by decide),decide_eq_false n2,if_neg (by decide)]
 | succ d ih =>
  intro i s o p q hi K
  obtain ⟨ss,so,sp,sq⟩:=sS K
  have hil:i < l.length:=by omega
  have hx:∀ f:Rat → Rat,i < ((cl l).map f).length:=fun f=>by rw [List.length_map,cl_length];exact hil
  have ci:(l[i]:Rat) ∈ cl l:=List.mem_map.2 ⟨l[i],List.getElem_mem hil,rfl⟩
  have hmi:=h.mem _ (List.getElem_mem hil)
  have hw:Sm 1000 1 ((l[i]:Int):Rat):=Sm.int (by omega)
  have step:∀ {f:Rat → Rat} {P:Rat → Prop} {x:Rat},(P x → P x):=fun h=>h
  have j4:∀ s o p q,Kp l α β γ i s o p q → s ≤ α (l[i]:Rat) → o ≤ γ (l[i]:Rat) → (l[i]:Rat) - β (l[i]:Rat) ≤ p → Ev (fun k=>numnahlaw07_SharesSmallest.j4 k l (encL ((cl l).map α)) (encL ((cl l).map β)) (encL ((cl l).map γ)) (i:Int) s.num (s.den:Int) o.num (o.den:Int) p.num (p.den:Int) q.num (q.den:Int)) true:=by
   intro s o p q K h1 h2 h3
   obtain ⟨ss,so,sp,sq⟩:=sS K
   have hm:=ev_rsub (hw.fits (sc _ ci) (by decide) (by decide))
   rw [whole_num,whole_den] at hm
   have hl1:=rless (sq.fits (sc' _ ci) (by decide) (by decide))
   have new:∀ q',(∃ c ∈ cl l,q' = c - γ c) → q ≤ q' → (l[i]:Rat) - γ (l[i]:Rat) ≤ q' → Kp l α β γ (i + 1) s o p q':=fun q' m1 m2 m3 =>
    ⟨K.s1,fun j hj hji=>by by_cases e:j = i;(subst e;exact h1);exact K.s2 j hj (by omega),K.o1,fun j hj hji=>by by_cases e:j = i;(subst e;exact h2);exact K.o2 j hj (by omega),K.p1,fun j hj hji=>by by_cases e:j = i;(subst e;exact h3);exact K.p2 j hj (by omega),m1,fun j hj hji=>by by_cases e:j = i;(subst e;exact m3);exact Rat.le_trans (K.q2 j hj (by omega)) m2⟩
   by_cases hlt:q < (l[i]:Rat) - γ (l[i]:Rat)
   ·obtain ⟨K1,e1⟩:=hm
    obtain ⟨K2,e2⟩:=ih (i + 1) s o p _ (by omega) (new _ ⟨_,ci,rfl⟩ (Rat.le_of_lt hlt) Rat.le_refl)
    refine ⟨K1 + K2 + 1,fun k hk=>?_⟩
    obtain ⟨m,rfl⟩:∃ m,k = m + 1:=⟨k - 1,by omega⟩
    have f1:=e1 m (by omega)
    have f1':numnahref07_Sub.f m l[i] 1 _ _ = _:=f1
    have f2:=e2 m (by omega)
    show numnahlaw07_SharesSmallest.j4 (m + 1) _ _ _ _ _ _ _ _ _ _ _ _ _ = _
    have hxg:=hx γ
    rw [numnahlaw07_SharesSmallest.j4,encL_length,if_pos (by omega),if_pos (by omega),rdE hxg,List.getElem_map,cl_get hil,rd_get hil]
    simp only [numnahref07_Whole.f,Option.bind_some]
    rw [if_pos (by omega)]
    simp only [encQ,f1',Option.bind_some,hl1]
    rw [decide_eq_true hlt,if_pos rfl,wrap_succ (by omega)]
    exact f2
   ·obtain ⟨K1,e1⟩:=hm
    obtain ⟨K2,e2⟩:=ih (i + 1) s o p q (by omega) (new q K.q1 Rat.le_refl (by grind))
    refine ⟨K1 + K2 + 1,fun k hk=>?_⟩
    obtain ⟨m,rfl⟩:∃ m,k = m + 1:=⟨k - 1,by omega⟩
    have f1:=e1 m (by omega)
    have f1':numnahref07_Sub.f m l[i] 1 _ _ = _:=f1
    have f2:=e2 m (by omega)
    show numnahlaw07_SharesSmallest.j4 (m + 1) _ _ _ _ _ _ _ _ _ _ _ _ _ = _
    have hxg:=hx γ
    rw [numnahlaw07_SharesSmallest.j4,encL_length,if_pos (by omega),if_pos (by omega),rdE hxg,List.getElem_map,cl_get hil,rd_get hil]
    simp only [numnahref07_Whole.f,Option.bind_some]
    rw [if_pos (by omega)]
    simp only [encQ,f1',Option.bind_some,hl1]
    rw [decide_eq_false hlt,if_neg (by decide),wrap_succ (by omega)]
    exact f2
  have j3:∀ s o p q,Kp l α β γ i s o p q → s ≤ α (l[i]:Rat) → o ≤ γ (l[i]:Rat) → Ev (fun k=>numnahlaw07_SharesSmallest.j3 k l (encL ((cl l).map α)) (encL ((cl l).map β)) (encL ((cl l).map γ)) (i:Int) s.num (s.den:Int) o.num (o.den:Int) p.num (p.den:Int) q.num (q.den:Int)) true:=by
   intro s o p q K h1 h2
   obtain ⟨ss,so,sp,sq⟩:=sS K
   have hm:=ev_rsub (hw.fits (sb _ ci) (by decide) (by decide))
   rw [whole_num,whole_den] at hm
   have hl1:=rless (sp.fits (sb' _ ci) (by decide) (by decide))
   have hxb:=hx β
   by_cases hlt:p < (l[i]:Rat) - β (l[i]:Rat)
   ·obtain ⟨K1,e1⟩:=hm
    obtain ⟨K2,e2⟩:=j4 s o _ q ⟨K.s1,K.s2,K.o1,K.o2,⟨_,ci,rfl⟩,fun j hj hji=>Rat.le_trans (K.p2 j hj hji) (Rat.le_of_lt hlt),K.q1,K.q2⟩ h1 h2 Rat.le_refl
    refine ⟨K1 + K2 + 1,fun k hk=>?_⟩
    obtain ⟨m,rfl⟩:∃ m,k = m + 1:=⟨k - 1,by omega⟩
    have f1':numnahref07_Sub.f m l[i] 1 _ _ = _:=e1 m (by omega)
    have f2:=e2 m (by omega)
    show numnahlaw07_SharesSmallest.j3 (m + 1) _ _ _ _ _ _ _ _ _ _ _ _ _ = _
    rw [numnahlaw07_SharesSmallest.j3,encL_length,if_pos (by omega),if_pos (by omega),rdE hxb,List.getElem_map,cl_get hil,rd_get hil]
    simp only [numnahref07_Whole.f,Option.bind_some]
    rw [if_pos (by omega)]
    simp only [encQ,f1',Option.bind_some,hl1]
    rw [decide_eq_true hlt,if_pos rfl]
    exact f2
   ·obtain ⟨K1,e1⟩:=hm
    obtain ⟨K2,e2⟩:=j4 s o p q K h1 h2 (by grind)
    refine ⟨K1 + K2 + 1,fun k hk=>?_⟩
    obtain ⟨m,rfl⟩:∃ m,k = m + 1:=⟨k - 1,by omega⟩
    have f1':numnahref07_Sub.f m l[i] 1 _ _ = _:=e1 m (by omega)
    have f2:=e2 m (by omega)
    show numnahlaw07_SharesSmallest.j3 (m + 1) _ _ _ _ _ _ _ _ _ _ _ _ _ = _
    rw [numnahlaw07_SharesSmallest.j3,encL_length,if_pos (by omega),if_pos (by omega),rdE hxb,List.getElem_map,cl_get hil,rd_get hil]
    simp only [numnahref07_Whole.f,Option.bind_some]
    rw [if_pos (by omega)]
    simp only [encQ,f1',Option.bind_some,hl1]
    rw [decide_eq_false hlt,if_neg (by decide)]
    exact f2
  have j2:∀ s o p q,Kp l α β γ i s o p q → s ≤ α (l[i]:Rat) → Ev (fun k=>numnahlaw07_SharesSmallest.j2 k l (encL ((cl l).map α)) (encL ((cl l).map β)) (encL ((cl l).map γ)) (i:Int) s.num (s.den:Int) o.num (o.den:Int) p.num (p.den:Int) q.num (q.den:Int)) true:=by
   intro s o p q K h1
   obtain ⟨ss,so,sp,sq⟩:=sS K
   have hl1:=rless ((sc _ ci).fits so (by decide) (by decide))
   have hxc:=hx γ
   by_cases hlt:γ (l[i]:Rat) < o
   ·refine Ev.step (fun k=>?_) (j3 s _ p q ⟨K.s1,K.s2,⟨_,ci,rfl⟩,fun j hj hji=>Rat.le_trans (Rat.le_of_lt hlt) (K.o2 j hj hji),K.p1,K.p2,K.q1,K.q2⟩ h1 Rat.le_refl)
    rw [numnahlaw07_SharesSmallest.j2,encL_length,if_pos (by omega),if_pos (by omega),rdE hxc,List.getElem_map,cl_get hil]
    simp only [encQ,hl1,Option.bind_some]
    rw [decide_eq_true hlt,if_pos rfl]
   ·refine Ev.step (fun k=>?_) (j3 s o p q K h1 (by grind))
    rw [numnahlaw07_SharesSmallest.j2,encL_length,if_pos (by omega),if_pos (by omega),rdE hxc,List.getElem_map,cl_get hil]
    simp only [encQ,hl1,Option.bind_some]
    rw [decide_eq_false hlt,if_neg (by decide)]
  have hl1:=rless ((sa _ ci).fits ss (by decide) (by decide))
  have hxa:=hx α
  by_cases hlt:α (l[i]:Rat) < s
  ·refine Ev.step (fun k=>?_) (j2 _ o p q ⟨⟨_,ci,rfl⟩,fun j hj hji=>Rat.le_trans (Rat.le_of_lt hlt) (K.s2 j hj hji),K.o1,K.o2,K.p1,K.p2,K.q1,K.q2⟩ Rat.le_refl)
   rw [numnahlaw07_SharesSmallest.l0,encL_length,if_pos (by omega),if_pos (by omega),if_pos (by omega),rdE hxa,List.getElem_map,cl_get hil]
   simp only [encQ,hl1,Option.bind_some]
   rw [decide_eq_true hlt,if_pos rfl]
  ·refine Ev.step (fun k=>?_) (j2 s o p q K (by grind))
   rw [numnahlaw07_SharesSmallest.l0,encL_length,if_pos (by omega),if_pos (by omega),if_pos (by omega),rdE hxa,List.getElem_map,cl_get hil]
   simp only [encQ,hl1,Option.bind_some]
   rw [decide_eq_false hlt,if_neg (by decide)]
theorem smallest_j0:Ev (fun k=>numnahlaw07_SharesSmallest.j0 k l (encL ((cl l).map α)) (encL ((cl l).map β)) (encL ((cl l).map γ)) false) true:=by
 have hl:=h.ten
 have h0:0 < l.length:=h.one
 have hx:∀ f:Rat → Rat,0 < ((cl l).map f).length:=fun f=>by rw [List.length_map,cl_length];exact h0
 have ci:(l[0]:Rat) ∈ cl l:=List.mem_map.2 ⟨l[0],List.getElem_mem h0,rfl⟩
 have hmi:=h.mem _ (List.getElem_mem h0)
 have hw:Sm 1000 1 ((l[0]:Int):Rat):=Sm.int (by omega)
 have m1:=ev_rsub (hw.fits (sb _ ci) (by decide) (by decide))
 have m2:=ev_rsub (hw.fits (sc _ ci) (by decide) (by decide))
 rw [whole_num,whole_den] at m1 m2
 obtain ⟨K1,m1⟩:=m1
 obtain ⟨K2,m2⟩:=m2
 obtain ⟨K3,m3⟩:=smallest_l0 h sa sb sc sb' sc' e1 e2 l.length 0 _ _ _ _ (by omega) ⟨⟨_,ci,rfl⟩,fun j _ hj=>by omega,⟨_,ci,rfl⟩,fun j _ hj=>by omega,⟨_,ci,rfl⟩,fun j _ hj=>by omega,⟨_,ci,rfl⟩,fun j _ hj=>by omega⟩
 refine ⟨K1 + K2 + K3 + 1,fun k hk=>?_⟩
 obtain ⟨m,rfl⟩:∃ m,k = m + 1:=⟨k - 1,by omega⟩
 have f1:numnahref07_Sub.f m l[0] 1 _ _ = _:=m1 m (by omega)
 have f2:numnahref07_Sub.f m l[0] 1 _ _ = _:=m2 m (by omega)
 have f3:=m3 m (by omega)
 show numnahlaw07_SharesSmallest.j0 (m + 1) _ _ _ _ _ = _
 have ra:=rdE (hx α)
 have rb:=rdE (hx β)
 have rc:=rdE (hx γ)
 have rl:=rd_get h0
 have la:=hx α
 have lb:=hx β
 have lc:=hx γ
 simp only [Int.ofNat_zero,List.getElem_map,cl_get h0] at ra rb rc rl
 rw [numnahlaw07_SharesSmallest.j0,if_neg (by decide),encL_length,encL_length,encL_length,if_pos (by omega),if_pos (by omega),if_pos (by omega),ra,rb,rc,rl]
 simp only [numnahref07_Whole.f,Option.bind_some]
 rw [if_pos (by omega)]
 simp only [encQ,f1,f2,Option.bind_some]
 exact f3
end
theorem smallest_Pure:numnahlaw07_SharesSmallest.Pure:=by
 intro l0 a1 a2 _ _ _ _ _
 refine Ev.rounds ?_
 unfold numnahlaw07_SharesSmallest.f
 obtain ⟨l,E,h,h0,h1,_,ht⟩:=ev_tame l0 a1
 obtain ⟨r,r0,r1,hr⟩:=mod_some a2 (n:=5) (by omega) (by omega)
 obtain ⟨r,rfl⟩:∃ n:Nat,r = (n:Int):=⟨r.toNat,by omega⟩
 obtain ⟨x,hx,ex⟩:=award_pr h h0 h1 (r:=1) (by omega)
 obtain ⟨y,hy,ey⟩:=award_pr h h0 h1 (r:=2) (by omega)
 obtain ⟨z,hz,ez⟩:=award_pr h h0 h1 (r:=r) (by omega)
 have hfx:=award_fit h h0 h1 hx
 have hfy:=award_fit h h0 h1 hy
 have hfz:=award_fit h h0 h1 hz
 have sx:=award_sm h h0 h1 hx
 have sy:=award_sm h h0 h1 hy
 have sz:=award_sm h h0 h1 hz
 have dy:=award_den h h0 h1 hy
 have dz:=award_den h h0 h1 hz
 have lx:=hx.len
 have ly:=hy.len
 have lz:=hz.len
 rw [cl_length] at lx ly lz
 obtain ⟨_,⟨L,rfl⟩,rfl,tx⟩:=hx
 obtain ⟨β,hβ,rfl,ty,wy⟩:=award_within h h0 h1 hy
 obtain ⟨γ,_,rfl,tz,wz⟩:=award_within h h0 h1 hz
 obtain ⟨M,hM⟩:∃ M,β = fun c=>c - min c M:=hβ
 subst hM
 have mem:∀ (f:Rat → Rat),∀ c ∈ cl l,f c ∈ (cl l).map f:=fun f c hc=>List.mem_map.2 ⟨c,hc,rfl⟩
 have less:∀ (f:Rat → Rat),(∀ c ∈ cl l,0 ≤ f c ∧ f c ≤ c) → (∀ c ∈ cl l,(f c).den ≤ 10000) → ∀ c ∈ cl l,Sm 10000000 10000 (c - f c):=fun f hf hd c hc=>by
  obtain ⟨n,hn,rfl⟩:=List.mem_map.1 hc
  have hb:=(cl_okC h _ hc).hi
  have hd2:((n:Rat) - f (n:Rat)).den ≤ 10000:=Nat.le_trans (Nat.le_of_dvd (den_pos _) (sub_den_dvd' (by rw [whole_den];exact Nat.one_dvd _) (Nat.dvd_refl _) (den_pos _))) (hd _ hc)
  obtain ⟨w1,w2⟩:=hf _ hc
  exact ⟨Nat.le_trans (num_abs (B:=1000) (by grind) (by grind) hd2) (by decide),hd2⟩
 have hF:tot ((cl l).map fun c=>min c M) = tot (cl l) - (E:Rat):=by
  have:=tot_sub (fun c=>c) (fun c=>min c M) (cl l)
  rw [List.map_id',ty] at this
  grind
 have hG:tot ((cl l).map fun c=>c - γ c) = tot (cl l) - (E:Rat):=by
  have:=tot_sub (fun c=>c) γ (cl l)
  rw [List.map_id',tz] at this
  exact this
 have e:=smallest_j0 h (α:=fun c=>min c L) (β:=fun c=>c - min c M) (γ:=γ) (fun c hc=>(sx _ (mem _ c hc)).2) (fun c hc=>(sy _ (mem (fun c=>c - min c M) c hc)).2) (fun c hc=>(sz _ (mem γ c hc)).2)
  (less _ wy (fun c hc=>dy _ (mem (fun c=>c - min c M) c hc))) (less _ wz (fun c hc=>dz _ (mem γ c hc)))
  (fun c hc=>least_share (fun d hd=>(wz d hd).2) tx tz c hc)
  (fun c hc=>by
   obtain ⟨d,hd,hle⟩:=most_loss (ψ:=fun c=>c - γ c) (fun d hd=>by have:=(wz d hd).1;grind) hF hG c hc
   exact ⟨d,hd,by grind⟩)
 refine Ev.bind ht ?_
 refine Ev.bind ex (Ev.bind ey ?_)
 simp only [hr,Option.bind_some]
 refine Ev.bind ez ?_
 simp only [encL_length,lx,ly,lz,if_true]
 refine Ev.bind hfx ?_
 simp only [if_true]
 refine Ev.bind hfy ?_
 simp only [if_true]
 refine Ev.bind hfz ?_
 simp only [Bool.not_true]
 exact e
end Go.Proofs.Ytjohcjfmlhihbaa.P
namespace Go.Proofs.YtjohcjfmlhihbaaW.PrintWords
open Go.ChangeShapes Go.WideShapes
theorem sized_ints {H:Type} {enc:TypeId × Value → H} {P:Program} {W:World} {base:Nat} {spare:Nat → Bool} {held:Bool} {t e:TypeId} {k:IntKind} {a:Option Addr} {len cap:Nat} {d:DataW H} {ps:List MemPlace} {ts:List TypeId} {ds:List (DataW H)} {j:Nat}
  (hsz:(DataW.weightsEach P ts ds).all (· ≤ reachBytes) = true) (ht:ts[j]? = some t) (hd:ds[j]? = some d) (hu:P.underlying t = some (.slice e)) (he:P.underlying e = some (.int k)) (hc:P.cellsOf e = 1) {B:Nat} (hB:P.bytesOf e = B)
  (h:DataW.Trod enc P W base spare held t (.slice a len cap) d ps):len * B ≤ 140737488351232:=by
 obtain ⟨fuel,hf⟩:=h
 rcases open_ints hu he hc hf with ⟨hcs,_⟩ | ⟨x,l,c,zs,hcs,_,hl,_,hz,hx,_,_⟩
 ·simp [Value.cells] at hcs
  obtain ⟨rfl,rfl,rfl⟩:=hcs
  simp
 ·simp [Value.cells] at hcs
  obtain ⟨rfl,rfl,rfl⟩:=hcs
  obtain ⟨hx,_⟩:=Prod.mk.inj hx
  subst hx
  have z:=sized_slice hsz ht hd hu
  rw [hB] at z
  have hl2:len ≤ zs.length:=by
   rw [hz]
   split
   ·exact hl
   ·exact Nat.le_refl _
  have h1:(lits (H:=H) k (zs.take len)).length + (lits (H:=H) k (zs.drop len)).length = zs.length:=by
   simp [lits]
   omega
  rw [h1] at z
  exact Nat.le_trans (Nat.mul_le_mul_right _ hl2) z
end Go.Proofs.YtjohcjfmlhihbaaW.PrintWords

/- Several texts, joined. -/
import Derived.Test.YthpahlkhiknofaaQSums3
set_option linter.unusedVariables false
set_option linter.unusedSimpArgs false
set_option linter.unusedSectionVars false
namespace Go.Proofs.Ythpahlkhiknofaa.P
open Go Go.RowKit Go.Proofs.Ythpahlkhiknofaa.M Go.Proofs.Ythpahlkhiknofaa.G
open Go.Proofs.YthpahlkhiknofaaW.PrintWords Go.Proofs.YthpahlkhiknofaaW.PrintMore
theorem ev_Sum {c:ByteArray} (hc:c.size ≤ 40) (h:totB c = true):Ev (fun k=>card_Sum.f k c) (sumS c (fnN c),0):=by
 obtain ⟨m,hm,e⟩:=newT hc
 have hT:=tot_of hc h
 have:=hm h
 subst this
 unfold card_Sum.f
 rw [e,h]
 exact Ev.congr (fun k=>Option.bind_some _ _) (Ev.congr (fun k=>if_pos rfl) (Ev.bind (ev_fsum hT) (Ev.now _)))
theorem ev_Measures {c:ByteArray} (hc:c.size ≤ 40) (h:totB c = true):Ev (fun k=>card_Measures.f k c) (degI c (fnN c) c.size,senI c (fnN c) c.size,cerI c (fnN c) c.size,(cntN c c.size:Int),0):=by
 obtain ⟨m,hm,e⟩:=newT hc
 have hT:=tot_of hc h
 have:=hm h
 subst this
 unfold card_Measures.f
 rw [e,h]
 exact Ev.congr (fun k=>Option.bind_some _ _) (Ev.congr (fun k=>if_pos rfl) (Ev.bind (ev_fsum hT) (meas_l0 hT c.size 0 (by omega))))
theorem ev_rMeasures {c:ByteArray} (hc:c.size ≤ 40) (h:totB c = true):Ev (fun k=>numnahref01_Measures.f k c) (degI c (fnN c) c.size,senI c (fnN c) c.size,cerI c (fnN c) c.size,(cntN c c.size:Int)):=by
 have hT:=tot_of hc h
 unfold numnahref01_Measures.f
 exact Ev.bind (ev_vars hc) (Ev.bind (ev_rsum hT) (rmeas_l0 hT c.size 0 (by omega)))
theorem ev_Mono {c:ByteArray} (hc:c.size ≤ 40) (h:totB c = true):∃ r:Int × Int,Ev (fun k=>card_Monotone.f k c) (r.1,r.2,0) ∧ Ev (fun k=>numnahref01_Monotone.f k c) r:=by
 obtain ⟨m,hm,e⟩:=newT hc
 have hT:=tot_of hc h
 have:=hm h
 subst this
 obtain ⟨r,h1,h2⟩:=mono_l0 hT hc rfl c.size 0 (by omega)
 refine ⟨r,?_,h2⟩
 unfold card_Monotone.f
 rw [e,h]
 exact Ev.congr (fun k=>Option.bind_some _ _) (Ev.congr (fun k=>if_pos rfl) h1)
theorem sums_pure (a0:ByteArray):∃ k,numnahlaw01_CardSums.f k a0 = some true:=by
 refine Ev.rounds ?_
 unfold numnahlaw01_CardSums.f
 obtain ⟨c,hc,e0⟩:=short_f a0
 rw [e0]
 simp only [Option.bind_some]
 by_cases h:totB c = true
 ·have hT:=tot_of hc h
  have et:=ev_rtotal hc
  rw [h] at et
  obtain ⟨r,m1,m2⟩:=ev_Mono hc h
  refine Ev.bind (ev_Sum hc h) (Ev.bind (ev_Measures hc h) (Ev.bind m1 (Ev.bind et (Ev.congr (fun k=>if_pos rfl) (Ev.bind m2 (Ev.bind (ev_rsum hT) (Ev.congr (fun k=>if_pos rfl) (Ev.congr (fun k=>if_pos rfl) (Ev.bind (ev_rMeasures hc h) ?_)))))))))
  refine Ev.congr (fun k=>if_pos ?_) (Ev.congr (fun k=>if_pos rfl) (Ev.congr (fun k=>if_pos rfl) (Ev.congr (fun k=>if_pos rfl) (Ev.congr (fun k=>if_pos rfl) ev_aw))))
  simp
 ·have h':totB c = false:=by simpa using h
  have et:=ev_rtotal hc
  rw [h'] at et
  obtain ⟨m,_,e⟩:=newT hc
  rw [h'] at e
  have hnil:(⟨#[]⟩:ByteArray).toList = []:=List.eq_nil_of_length_eq_zero (toList_len _)
  have a1:Ev (fun k=>card_Sum.f k c) ((⟨#[]⟩:ByteArray),2):=by
   unfold card_Sum.f
   rw [e]
   exact Ev.congr (fun k=>Option.bind_some _ _) (Ev.now _)
  have a2:Ev (fun k=>card_Measures.f k c) (0,0,0,0,2):=by
   unfold card_Measures.f
   rw [e]
   exact Ev.congr (fun k=>Option.bind_some _ _) (Ev.now _)
  have a3:Ev (fun k=>card_Monotone.f k c) (0,0,2):=by
   unfold card_Monotone.f
   rw [e]
   exact Ev.congr (fun k=>Option.bind_some _ _) (Ev.now _)
  refine Ev.bind a1 (Ev.bind a2 (Ev.bind a3 (Ev.bind et (Ev.congr (fun k=>if_neg (by decide)) (Ev.congr (fun k=>if_pos hnil) (Ev.congr (fun k=>if_pos rfl) (Ev.congr (fun k=>if_pos (by decide)) (Ev.congr (fun k=>if_pos rfl) (Ev.congr (fun k=>if_pos rfl) (Ev.congr (fun k=>if_pos rfl) (Ev.congr (fun k=>if_pos rfl) ev_aw)))))))))))
theorem sums_Pure:numnahlaw01_CardSums.Pure:=fun a0 _=>sums_pure a0
end Go.Proofs.Ythpahlkhiknofaa.P

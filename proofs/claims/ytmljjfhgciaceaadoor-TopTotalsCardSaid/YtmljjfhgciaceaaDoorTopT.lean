import Derived.Test.YtmljjfhgciaceaaDoorHd
import Derived.Test.YtmljjfhgciaceaaDoorEG
namespace Go.Proofs.YtmljjfhgciaceaaDoor
variable {s:ByteArray} {fl lo hi:Int} {l F:List Ac} {qs:List qG} {k:Nat}
def abR (s:ByteArray) (P:List C9):Bool:=P.any fun p=>decide (p.s=s)
def ab1 (P:List C9) (fl:Int) (s:ByteArray) (a z:Int):aw:=aao (P.filter fun p=>decide (fl<=p.t)) s a z
theorem abT:∀(l:List Ac) (x:St),(aa8 x l).length<=l.length
 |[],_=>km _
 |a::l,x=>by
  have h:=abT l (gS x a)
  rw [aa8,dO,gp]
  split
  ·rw [List.length_singleton];omega
  ·rw [List.length_nil];omega
theorem ad0 (h:∀a∈l,a.k≠5/\a.k≠6):∀p∈aa8 St.zero l,acy p:=by
 have:=(Tot.run (l:=l) Tot.zero h).ok
 simpa using this
theorem acF (hF:∀a∈F,a.k≠5/\a.k≠6) (hk:k<F.length):(gK St.zero (F.take (k+1))).m.fl=if F[k].k=4/\(kX (gK St.zero (F.take k)) F[k]).code=0 then F[k].t else(gK St.zero (F.take k)).m.fl:=by
 rw [kK hk,rU]
 exact acV (hF _ (fP hk))
theorem ad1 (hk:k<F.length):abR s (aa8 St.zero (F.take (k+1)))=(abR s (aa8 St.zero (F.take k)) || (decide (F[k].k=1) && (decide ((kX (gK St.zero (F.take k)) F[k]).code=0) && decide (F[k].s=s)))):=by
 rw [kK hk,aaX]
 unfold abR
 rw [List.any_append]
 congr 1
 by_cases h1:F[k].k=1
 ·by_cases h2:(kX (gK St.zero (F.take k)) F[k]).code=0
  ·rw [ar ⟨h1,h2⟩];simp [h1,h2]
  ·rw [ai (fun h=>h2 h.2)];simp [h2]
 ·rw [ai (fun h=>h1 h.1)];simp [h1]
theorem acm (P:List C9) (p:C9) (fl:Int) (s:ByteArray) (a z:Int):ab1 (P++[p]) fl s a z=if fl<=p.t/\abf s a z p=true then(ab1 P fl s a z).join (aar p)else ab1 P fl s a z:=by
 unfold ab1
 rw [rF]
 by_cases h:fl<=p.t
 ·rw [show ([p].filter fun p=>decide (fl<=p.t))=[p] by simp [h],acw]
  simp [h]
 ·rw [show ([p].filter fun p=>decide (fl<=p.t))=[] by simp [h],oL,ai (fun h'=>h h'.1)]
theorem abY (hk:k<F.length) (h1:F[k].k=1) (h2:(kX (gK St.zero (F.take k)) F[k]).code=0) (h3:F[k].s=s) (h4:lo<=F[k].t) (h5:F[k].t<=hi) (h6:fl<=F[k].t) :
  ab1 (aa8 St.zero (F.take (k+1))) fl s lo hi=(ab1 (aa8 St.zero (F.take k)) fl s lo hi).join ⟨1,F[k].v,F[k].v,F[k].v,F[k].t,F[k].v⟩:=by
 rw [kK hk,aaX,ar ⟨h1,h2⟩,acm,ar ⟨h6,by simp [abf,h3,h4,h5]⟩];rfl
theorem aca (hk:k<F.length) (h:¬(F[k].k=1/\(kX (gK St.zero (F.take k)) F[k]).code=0/\F[k].s=s/\lo<=F[k].t/\F[k].t<=hi/\fl<=F[k].t)) :
  ab1 (aa8 St.zero (F.take (k+1))) fl s lo hi=ab1 (aa8 St.zero (F.take k)) fl s lo hi:=by
 rw [kK hk,aaX]
 by_cases h1:F[k].k=1/\(kX (gK St.zero (F.take k)) F[k]).code=0
 ·rw [ar h1,acm,ai (fun h'=>h ?_)]
  have h2:=h'.2
  simp only [abf,Bool.and_eq_true,yi]at h2
  exact⟨h1.1,h1.2,h2.1.1,h2.1.2,h2.2,h'.1⟩
 ·rw [ai h1,oL]
theorem adL (hF:∀a∈F,a.k≠5/\a.k≠6) (hl:F.length<=500):aq (ab1 (aa8 St.zero (F.take k)) fl s lo hi)=0/\(ab1 (aa8 St.zero (F.take k)) fl s lo hi).c<=500/\0<=(ab1 (aa8 St.zero (F.take k)) fl s lo hi).c:=by
 have h1:=abT (F.take k) St.zero
 have h2:=sH (fun p:C9=>decide (fl<=p.t)) (aa8 St.zero (F.take k))
 have h3:(F.take k).length<=F.length:=by rw [eP];omega
 obtain⟨g1,g2,g3⟩:=acU (ps:=(aa8 St.zero (F.take k)).filter fun p=>decide (fl<=p.t)) (s:=s) (a:=lo) (z:=hi) af fun p hp=>ad0 (fun a ha=>hF a (wM ha)) p (mn.1 hp).1
 exact⟨g1,by unfold ab1;omega,g3⟩
theorem adp (_hF:∀a∈F,a.k≠5/\a.k≠6) (hk:k<F.length) (h1:F[k].k=1) (h2:(kX (gK St.zero (F.take k)) F[k]).code=0):0<=F[k].t/\F[k].t<=1048575/\-1000000<=F[k].v/\F[k].v<=1000000:=by
 rw [acx h1]at h2
 obtain⟨-,p0,p1,p2,p3,-⟩:=abp h2
 exact⟨p0,p1,p2,p3⟩
theorem acJ:∀{F:List Ac} {x:St} {k:Nat} (h:k<F.length),(sy x F)[k]?=some (kX (gK x (F.take k)) F[k])
 |[],_,_,h=>by cases h
 |a::l,x,0,_=>rfl
 |a::l,x,k+1,h=>by
  rw [sy,List.getElem?_cons_succ,acJ (by rw [gp]at h;omega)]
  rfl
theorem ad4 (h:qs.map qG.an=sy St.zero (F++l)) (hk:k<F.length) (hq:k<qs.length):qs[k].an=kX (gK St.zero (F.take k)) F[k]:=by
 have h1:(qs.map qG.an)[k]?=some qs[k].an:=by simp [hq]
 rw [h,xp,Ao (by rw [uj];exact hk),acJ hk]at h1
 exact(cY h1).symm
theorem ad3 {b:Ac} (h:qs.map qG.an=sy St.zero (F++[b])) (hq:F.length<qs.length):qs[F.length].an=kX (gK St.zero F) b:=by
 have h1:(qs.map qG.an)[F.length]?=some qs[F.length].an:=by simp [hq]
 rw [h,Bu,List.getElem?_append_right (by rw [uj];exact km _),uj]at h1
 simpa using h1.symm
theorem acE (hF:∀a∈F,a.k≠5/\a.k≠6) (hr:cT lo hi) :
  (abR s (aa8 St.zero F)=false->(kX (gK St.zero F) ⟨3,s,lo,hi,0,0⟩).code=6) /\
  (abR s (aa8 St.zero F)=true->(kX (gK St.zero F) ⟨3,s,lo,hi,0,0⟩).code=0/\(kX (gK St.zero F) ⟨3,s,lo,hi,0,0⟩).is=ab1 (aa8 St.zero F) (gK St.zero F).m.fl s lo hi):=by
 have h:=Tot.run (l:=F) Tot.zero hF
 rw [List.nil_append]at h
 have e:kX (gK St.zero F) ⟨3,s,lo,hi,0,0⟩=⟨(gK St.zero F).m.yR s lo hi,(gK St.zero F).m.QL s lo hi,[]⟩:=by
  unfold kX
  rw [ai (show ¬(3:Int)=1 by decide),ai (show ¬(3:Int)=2 by decide),ar rfl]
 have hin:abR s (aa8 St.zero F)=true↔s∈(gK St.zero F).m.ns:=by
  rw [h.any s];unfold abR;simp
 obtain⟨t1,t2⟩:=h.total (s:=s) hr
 rw [e]
 refine⟨fun hn=>t1 fun hm=>?_,fun hy=>t2 (hin.1 hy)⟩
 rw [hin.2 hm]at hn;cases hn
end Go.Proofs.YtmljjfhgciaceaaDoor

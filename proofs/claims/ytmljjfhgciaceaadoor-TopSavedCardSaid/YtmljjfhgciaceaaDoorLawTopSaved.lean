import Derived.Test.YtmljjfhgciaceaaDoorHd
import Derived.Test.YtmljjfhgciaceaaDoorTopW
import Derived.Test.YtmljjfhgciaceaaDoorConcat
import Derived.Test.YtmljjfhgciaceaaDoorSameA
import Derived.Test.YtmljjfhgciaceaaDoorTopY
import Derived.Test.YtmljjfhgciaceaaDoorSO
namespace Go.Proofs.YtmljjfhgciaceaaDoor
open Go.RowKit
set_option maxRecDepth 100000
set_option maxHeartbeats 4000000
def svB:Ac:=⟨5,⟨#[]⟩,0,0,0,0⟩
def ldB:Ac:=⟨6,⟨#[]⟩,0,0,0,0⟩
theorem abX {v u:Value} {xs ys:List Rw} {w:World} (h:Ar w v xs) (hx:∀a∈xs,a.ok) (h':Ar w u ys) (hy:∀a∈ys,a.ok) (hsz:bL w) :
  Calls Tryd.prog 11 #[v,u] w fun e w'=>e = .returned (.bool true)/\ah w w':=by
 obtain⟨ao,cap,rfl⟩:=h.isSlice
 have HA:=hdd (show Calls Tryd.prog 12 #[.slice ao xs.length cap, .int .i64 30] w _ from vg (most:=30) h hx aW)
 have HA':=hdd fun W (hb:ah w W)=>(show Calls Tryd.prog 12 #[u, .int .i64 30] W _ from vg (most:=30) (h'.below hb aH) hy aW)
 obtain⟨bo,bp,rfl⟩:=h'.isSlice
 have nN:=hdd hsz
 have HLA:=hdd (ve (xs:=xs) (most:=30))
 have HSA:=hdd (qh (xs:=xs) (most:=30))
 have HLB:=hdd (ve (xs:=ys) (most:=30))
 have HSB:=hdd (qh (xs:=ys) (most:=30))
 clear h hx hsz h' hy
 go_enter Tryd.func11,Tryd.ntmps11
 go_upto_region 2 with (go_at_call 12;(with_reducible refine HA.out.mono ?_);rintro e w1 ⟨hb1,oa,oc,rfl,hown⟩)
 obtain⟨A,hA⟩:=bt (jh xs 30)
 rw [hA]at hown HLA HSA ⊢
 have tX:=hdd hb1
 have FD:=hdd hown
 clear hA hown hb1 HA
 go_upto_region 3 with (go_at_call 12;(with_reducible refine(HA'.out _ tX.out).mono ?_);rintro e w2 ⟨hb2,ob,od,rfl,hown⟩)
 obtain⟨C,hC⟩:=bt (jh ys 30)
 rw [hC]at hown HLB HSB ⊢
 have gI:=hdd (Below.trans' tX.out hb2 tX.out.size)
 have Zk:=hdd (FD.out.below hb2 aH)
 have Vn:=hdd (hown.mono tX.out.size)
 clear hC hown hb2 HA' FD
 go_upto_region 4 with (fail)
 obtain⟨W3,hW3⟩:=bP (w2.alloc (.cells #[.int .i64 5, .string ⟨#[]⟩, .int .i64 0, .int .i64 0, .int .i64 0, .int .i64 0] 26))
 have hb3:ah w2 W3:=by rw [hW3];exact ag
 have k3:W3.heap[w2.heap.size]?=some (.cells svB.cs 26):=by rw [hW3];exact aj _ _ rfl
 have hz3:W3.heap.size=w2.heap.size+1:=by rw [hW3];simp
 have sU:=hdd (Below.trans' gI.out hb3 gI.out.size)
 have Vr:=hdd k3
 have aem:=hdd (Zk.out.below hb3 aH)
 have ael:=hdd (Vn.out.below hb3 aH)
 have HZ3:=hdd hz3
 rw [<-hW3]
 obtain⟨x0,x1,x2,x3,x4,x5⟩:W3.cell? ⟨w2.heap.size,0,none⟩=some (.int .i64 5)/\W3.cell? ⟨w2.heap.size,1,none⟩=some (.string ⟨#[]⟩)/\W3.cell? ⟨w2.heap.size,2,none⟩=some (.int .i64 0)/\W3.cell? ⟨w2.heap.size,3,none⟩=some (.int .i64 0)/\W3.cell? ⟨w2.heap.size,4,none⟩=some (.int .i64 0)/\W3.cell? ⟨w2.heap.size,5,none⟩=some (.int .i64 0):=by simp [World.cell?,k3,Ac.cs,svB]
 clear hW3 hb3 k3 hz3
 have hsD:∀a∈[A,[svB],C].flatten,a.s.size<=140737488351232:=fun a ha=>by
  simp only [List.flatten_cons,List.flatten_nil,oL,kJ,mR]at ha
  rcases ha with ha|ha|ha
  ·exact HSA.out a ha
  ·rw [ha];decide
  ·exact HSB.out a ha
 have hlD:[A,[svB],C].flatten.length=A.length+1+C.length:=by
  simp only [List.flatten_cons,List.flatten_nil,oL,dO,List.length_singleton];omega
 have lA:A.length<=30:=HLA.out
 have hlb:C.length<=30:=HLB.out
 obtain⟨W5,mN⟩:=bP (((W3.alloc (.cells #[.int .i64 5, .string ⟨#[]⟩, .int .i64 0, .int .i64 0, .int .i64 0, .int .i64 0] 26)).alloc (.cells #[.slice oa A.length oc, .slice (some ⟨W3.heap.size,0,none⟩) 1 1, .slice ob C.length od] 23)))
 have cu:ah W3 W5:=by rw [mN];exact ag
 have hk1:W5.heap[W3.heap.size]?=some (.cells svB.cs 26):=by rw [mN,kW _ _ _ bj];exact aj _ _ rfl
 have hk2:W5.heap[W3.heap.size+1]?=some (.cells #[.slice oa A.length oc, .slice (some ⟨W3.heap.size,0,none⟩) 1 1, .slice ob C.length od] 23):=by rw [mN];exact aj _ _ bj
 have HCC:=hdd (show Calls Tryd.prog 35 #[.slice (some ⟨W3.heap.size+1,0,none⟩) 3 3] W5 _ from Hs (B:=w.heap.size) (cap:=3) (vs:=[.slice oa A.length oc, .slice (some ⟨W3.heap.size,0,none⟩) 1 1, .slice ob C.length od]) (Ls:=[A,[svB],C]) hk2 rfl (show 3<=4 by decide) (fun k h h'=>by
  rcases k with _|_|_|k
  ·exact aem.out.below cu aH
  ·exact⟨⟨rfl, .inr ⟨W3.heap.size,1,svB.cs,rfl,sU.out.size,hk1,km _,aW,rfl,rfl⟩⟩⟩
  ·exact ael.out.below cu aH
  ·simp at h;omega) (fun l hl=>by
  simp only [fk,List.not_mem_nil,or_false]at hl
  rcases hl with rfl|rfl|rfl
  ·omega
  ·decide
  ·omega))
 obtain⟨D,hD⟩:=bt ([A,[svB],C].flatten)
 rw [hD]at HCC hsD hlD
 have Cc:=hdd cu
 have HD:=hdd hD
 have HSD:=hdd hsD
 have X5:=hdd hlD
 clear cu hk1 hk2 hD hsD hlD
 go_upto_region 5 with (first
  |(rw [<-mN];go_at_call 35;(with_reducible refine HCC.out.mono ?_);rintro e w6 ⟨jf,co,cc,rfl,hoc⟩;have aeu:=hdd jf;have pA:=hdd (Below.trans' sU.out (Below.trans' Cc.out jf Cc.out.size) sU.out.size);have vF:=hdd (FO (hoc.at (by have:=X5.out;omega)) HSD.out (by have:=X5.out;omega) (nN.out.below pA.out));clear hoc jf)
  |(go_at_call 14;(with_reducible refine vF.out.mono ?_);rintro e w7 ⟨qE,ra,rc,qs,b,sa,sc,g0,l0,p0,g1,l1,p1,g2,l2,p2,rfl,YO,hown,hrows,-,-,hok⟩))
 have HQ:=hdd (aL YO (aL hown (aL hrows hok)))
 have xS:=hdd (Below.trans' pA.out qE pA.out.size)
 have aew:=hdd (Below.trans' (Below.trans' Cc.out aeu.out Cc.out.size) qE (Below.trans' Cc.out aeu.out Cc.out.size).size)
 clear YO hown hrows hok qE x0 x1 x2 x3 x4 x5 lA hlb
 obtain⟨W8,mM⟩:=bP (w7.alloc (.cells (aG sa b.names.length sc g0 l0 p0 g1 l1 p1 g2 l2 p2 b) 35))
 have kS:ah w7 W8:=by rw [mM];exact ag
 have Yk:=hdd (Below.trans' xS.out kS xS.out.size)
 have aer:=hdd kS
 have adv:=Below.trans' aew.out kS aew.out.size
 have hz3:=HZ3.out
 have k8:=(adv.block w2.heap.size af).trans Vr.out
 have HO8:=hdd (aL (aem.out.below adv aH) (ael.out.below adv aH))
 obtain⟨x0,x1,x2,x3,x4,x5⟩:W8.cell? ⟨w2.heap.size,0,none⟩=some (.int .i64 5)/\W8.cell? ⟨w2.heap.size,1,none⟩=some (.string ⟨#[]⟩)/\W8.cell? ⟨w2.heap.size,2,none⟩=some (.int .i64 0)/\W8.cell? ⟨w2.heap.size,3,none⟩=some (.int .i64 0)/\W8.cell? ⟨w2.heap.size,4,none⟩=some (.int .i64 0)/\W8.cell? ⟨w2.heap.size,5,none⟩=some (.int .i64 0):=by simp [World.cell?,k8,Ac.cs,svB]
 rw [<-mM]
 clear mM adv k8 hz3
 have hsE:∀a∈[A,[svB,ldB],C].flatten,a.s.size<=140737488351232:=fun a ha=>by
  simp only [List.flatten_cons,List.flatten_nil,oL,kJ,fk,List.not_mem_nil,or_false]at ha
  rcases ha with ha|(ha|ha)|ha
  ·exact HSA.out a ha
  ·rw [ha];decide
  ·rw [ha];decide
  ·exact HSB.out a ha
 have hlE:[A,[svB,ldB],C].flatten.length=A.length+2+C.length:=by
  simp only [List.flatten_cons,List.flatten_nil,oL,dO,gp,List.length_nil];omega
 have lA:A.length<=30:=HLA.out
 have hlb:C.length<=30:=HLB.out
 obtain⟨W9,jz⟩:=bP (((W8.alloc (.cells #[.int .i64 5, .string ⟨#[]⟩, .int .i64 0, .int .i64 0, .int .i64 0, .int .i64 0, .int .i64 6, .string ⟨#[]⟩, .int .i64 0, .int .i64 0, .int .i64 0, .int .i64 0] 26)).alloc (.cells #[.slice oa A.length oc, .slice (some ⟨W8.heap.size,0,none⟩) 2 2, .slice ob C.length od] 23)))
 have pS:ah W8 W9:=by rw [jz];exact ag
 have hk1:W9.heap[W8.heap.size]?=some (.cells #[.int .i64 5, .string ⟨#[]⟩, .int .i64 0, .int .i64 0, .int .i64 0, .int .i64 0, .int .i64 6, .string ⟨#[]⟩, .int .i64 0, .int .i64 0, .int .i64 0, .int .i64 0] 26):=by rw [jz,kW _ _ _ bj];exact aj _ _ rfl
 have hk2:W9.heap[W8.heap.size+1]?=some (.cells #[.slice oa A.length oc, .slice (some ⟨W8.heap.size,0,none⟩) 2 2, .slice ob C.length od] 23):=by rw [jz];exact aj _ _ bj
 have HCE:=hdd (show Calls Tryd.prog 35 #[.slice (some ⟨W8.heap.size+1,0,none⟩) 3 3] W9 _ from Hs (B:=w.heap.size) (cap:=3) (vs:=[.slice oa A.length oc, .slice (some ⟨W8.heap.size,0,none⟩) 2 2, .slice ob C.length od]) (Ls:=[A,[svB,ldB],C]) hk2 rfl (show 3<=4 by decide) (fun k h h'=>by
  rcases k with _|_|_|k
  ·exact HO8.out.1.below pS aH
  ·exact⟨⟨rfl, .inr ⟨W8.heap.size,2,_,rfl,Yk.out.size,hk1,km _,aW,rfl,rfl⟩⟩⟩
  ·exact HO8.out.2.below pS aH
  ·simp at h;omega) (fun l hl=>by
  simp only [fk,List.not_mem_nil,or_false]at hl
  rcases hl with rfl|rfl|rfl
  ·omega
  ·decide
  ·omega))
 obtain⟨E,hE⟩:=bt ([A,[svB,ldB],C].flatten)
 rw [hE]at HCE hsE hlE
 have qD:=hdd pS
 have HE:=hdd hE
 have qF:=hdd hsE
 have Ca:=hdd hlE
 clear pS hk1 hk2 hE hsE hlE
 go_upto_region 6 with (first
  |(rw [<-jz];go_at_call 35;(with_reducible refine HCE.out.mono ?_);rintro e nQ ⟨zP,ko,kc,rfl,hoc⟩;have adm:=hdd (Below.trans' qD.out zP qD.out.size);have HRE:=hdd (FO (hoc.at (by have:=Ca.out;omega)) qF.out (by have:=Ca.out;omega) (nN.out.below (Below.trans' Yk.out adm.out Yk.out.size)));clear hoc zP)
  |(go_at_call 14;(with_reducible refine HRE.out.mono ?_);rintro e VC ⟨adN,ma,mc,us,c,ea,ec,y0,j0,r0,y1,j1,r1,y2,j2,r2,rfl,hus,hown,hrows,-,-,hok⟩))
 obtain⟨V,hV⟩:=bP (VC.alloc (.cells (aG ea c.names.length ec y0 j0 r0 y1 j1 r1 y2 j2 r2 c) 35))
 have P8:ah VC V:=by rw [hV];exact ag
 have adM:ah W8 V:=Below.trans' (Below.trans' adm.out adN adm.out.size) P8 (Below.trans' adm.out adN adm.out.size).size
 have h7V:ah w7 V:=Below.trans' aer.out adM aer.out.size
 obtain⟨q1,q2,q3,q4⟩:=HQ.out
 obtain⟨a1,a2⟩:=abw q1 q2 q3 q4 (by have:=X5.out;omega) (W:=V) h7V
 obtain⟨a3,a4⟩:=abw hus hown hrows hok (by have:=Ca.out;omega) (W:=V) P8
 have PR:qs.length=A.length+1+C.length:=by
  have:=congrArg List.length q1
  rw [oJ,uj]at this
  rw [this];exact X5.out
 have hul:us.length=A.length+2+C.length:=by
  have:=congrArg List.length hus
  rw [oJ,uj]at this
  rw [this];exact Ca.out
 have hdr:(qs.drop (A.length+1)).map qG.an=(us.drop (A.length+2)).map qG.an:=by
  rw [List.map_drop,List.map_drop,q1,hus,<-HD.out,<-HE.out]
  have:=acN A C (sv:=svB) (ld:=ldB) rfl rfl St.zero
  simpa using this
 have vr:=hdd (Below.trans' Yk.out adM Yk.out.size)
 rw [<-hV]
 clear hV P8 adM h7V hus hown hrows hok adN q1 q2 q3 q4 x0 x1 x2 x3 x4 x5 jz
 obtain⟨g1,o1,u1,c1,rfl,Eo,b1⟩:=acM (m:=A.length+1) a1 af af
 obtain⟨g2,o2,u2,c2,rfl,hl2,b2⟩:=acM (m:=A.length+2) a3 af af
 have KS:=hdd fun W (hb:ah V W)=>abH (b1.below hb aH) (b2.below hb aH) hdr (fun p hp=>(a2 p (uZ hp)).below hb aH) (fun p hp=>(a4 p (uZ hp)).below hb aH) (by rw [oI];omega)
 have hw1:IntKind.i64.wrap ((A.length:Int)+1)=(A.length:Int)+1:=IntWalk.i64_in _ af
 have hw2:IntKind.i64.wrap ((A.length:Int)+2)=(A.length:Int)+2:=IntWalk.i64_in _ af
 have hs1:=fun W=>Eo ((A.length:Int)+1) W af
 have hs2:=fun W=>hl2 ((A.length:Int)+2) W af
 obtain⟨n1,GU⟩:=bt (qs.length-(A.length+1))
 obtain⟨n2,xE⟩:=bt (us.length-(A.length+2))
 rw [GU]at hs1 KS
 rw [xE]at hs2 KS
 clear Eo hl2 a1 a2 a3 a4 b1 b2 hdr GU xE PR hul
 refine eD [(0,1),(1,1),(2,1),(3,1),(4,1),(5,1),(6,1),(7,1),(8,1),(9,1),(10,1),(11,1),(12,1),(13,1),(14,1),(15,1),(16,1),(17,2),(18,1),(19,3)] 19 (fun W=>ah V W) bT bT (aI _ _).drew ?_
 (simp only [bG,List.filterMap_cons,List.filterMap_nil,List.getElem?_cons_zero,List.getElem?_cons_succ,Option.map_some])
 (repeat (first|refine lO ?_|refine lN ?_|refine lM ?_);(try simp only [Act.put,List.setIfInBounds_toArray,List.set_cons_zero,List.set_cons_succ]))
 refine qP ?_ (fun K hK=>?_)
 (focus (first|exact br rfl _|exact eZ rfl rfl rfl rfl))
 go_simp
 (with_reducible refine(KS.out _ (aI _ _).drew).mono ?_);rintro x wB ⟨rfl,Tt⟩
 have HBB:=hdd (show ah V wB from Below.trans' (aI _ V).drew Tt aH)
 go_simp
 refine hK _ _ HBB.out ?_
 clear hK K Tt
 (repeat (first|refine lO ?_|refine lN ?_|refine lM ?_);(try simp only [Act.put,List.setIfInBounds_toArray,List.set_cons_zero,List.set_cons_succ]))
 refine iK ?_ (fun K hK=>?_)
 (focus (first|exact br rfl _|exact eZ rfl rfl rfl rfl))
 go_simp
 refine hK _ _ ?_
 clear hK K
 refine jE ?_
 go_wp2_with fail
 go_ret
 exact⟨rfl,Below.trans' vr.out HBB.out vr.out.size⟩
end Go.Proofs.YtmljjfhgciaceaaDoor

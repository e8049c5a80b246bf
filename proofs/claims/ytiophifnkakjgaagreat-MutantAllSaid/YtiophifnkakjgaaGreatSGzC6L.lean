/-
  Part 12 of the proof: what the machine does and what the functions answer.
  Conditions: those that each lemma names.
-/
import Derived.Test.YtiophifnkakjgaaGreatSGzC6K
set_option linter.unusedSimpArgs false
set_option linter.unusedVariables false
set_option maxRecDepth 100000
set_option maxHeartbeats 20000000
namespace Gv
open Go Go.Proofs
def qI:SC:=
 ai [ai [ag [af 8 6,aw 9 1 2,au 10 9,aN 11 10,aS 12 .lss 8 11],bP 12 (.exit 0)],.block 1 (ai [ai [ag [aw 15 1 2,au 16 15,af 17 6,aL 18 1 16 17,au 19 18,aH 20 .geq 19 0],aX 20 (.exit 1)],ag [af 21 1,aw 22 1 2,au 23 22,af 24 6,aL 25 1 23 24,au 26 25,((some 27),.op (.arith .sub (.val (.val (.int .i64 (-1)))) (.tmp 26))),aL 28 1 21 27,au 29 28,af 7 29],ai [ag [af 30 7,aH 31 .eql 30 0],aX 31 (ai [ag [aT 4 0],.ret])],ag [af 32 5,af 33 7,((some 34),.op (.mm true (.tmp 32) (.tmp 33))),af 5 34]]),ag [af 13 6,aH 14 .add 13 1,af 6 14]]
def tG:SF:=⟨ai [ag [cm 2 0,aT 4 0],ag [aT 5 0],ai [ag [aT 6 0],bQ 0 qI],ag [af 35 5,aH 36 .add 35 1,af 4 36],.ret],
 [.tmp 4],37⟩
theorem yE:aJ aa 137 [2]=some tG:=by kernel_rfl
def nD:SC:=
 ai [ai [ag [af 25 6,aw 26 2 1,au 27 26,aN 28 27,aS 29 .lss 25 28],bP 29 (.exit 2)],.block 3 (ai [ag [aw 32 2 1,au 33 32,af 34 6,aL 35 3 33 34,aU 36 3 35,((some 7),.op (.alloc [(.val (.int .i64 0)),(.emp 1),(.val (.int .i64 0))])),cz 3 7 36],.region false [⟨none,[af 37 3,aw 38 0 7,au 39 38,aL 40 1 37 39,au 41 40,aH 42 .eql 41 0,af 43 42]⟩,⟨(some (43,true)),[aU 44 3 7,af 45 5,aV 46 137 [44,45],af 47 4,aS 48 .eql 46 47]⟩,⟨none,[dO 49 43 48]⟩],aX 49 (ag [af 50 3,aw 51 0 7,au 52 51,af 53 4,aL 54 1 50 52,cz 1 54 53])]),ag [af 30 6,aH 31 .add 30 1,af 6 31]]
def nH:SC:=
 ai [ai [ag [af 15 4,aw 16 1 1,au 17 16,aN 18 17,aS 19 .leq 15 18],bP 19 (.exit 0)],.block 1 (ai [ag [bT 22 2,af 23 3,fL 24 1 8 22 23,af 5 24],ag [aT 6 0],bQ 2 nD]),ag [af 20 4,aH 21 .add 20 1,af 4 21]]
def pf:SF:=⟨ai [ag [cm 1 0,bT 2 1],ai [ag [aU 8 4 1,aV 9 50 [8],cR 10 9],aX 10 (ai [ag [bT 2 1],.ret])],ag [aw 11 1 1,au 12 11,aN 13 12,((some 14),.op (.make 1 8 [(.val (.int .i64 0))] (.tmp 13) (.tmp 13))),af 3 14],ai [ag [aT 4 1],bQ 0 nH],ag [af 55 3,af 2 55],.ret],
 [.tmp 2],56⟩
theorem vz:aJ aa 136 [1]=some pf:=by kernel_rfl
theorem C0 {h:List Int} {m:Nat} (hm:m<h.length):h[m]?=some (gE h m):=by simp[gE,aaP,hm]
theorem Rc {h:List Int} {m:Nat} (hm:m<h.length):(aM h).getD m []=[gi (gE h m)]:=by simp[gE,aaP,hm]
def UK (h:List Int):Prop:=∀m,0<=gE h m/\gE h m<=1000
theorem LF {g:aj} (hr:g.rules.length<=40) {k:Nat} (hk:k<=16):UK (fZ (aG g k)):=λm=>by
 rw[nr]
 by_cases h:bJ (aG g k) m
 .obtain⟨a,b,_⟩:=fI g k m h
  omega
 .rw[kg h];unfold ka;decide
theorem Ik (r:bc) (h:List Int) (j:UK h) (l:A5 h.length r):aC aa 137 [.agg (aQ r),encI h] (gi (gx h r.right 0)):=by
 obtain⟨_,_,_,m,n⟩:=l
 refine aC.val (by
  intro v c;simp at c
  rcases c with rfl | rfl
  .exact bW _ (gn r)
  .exact bC h) λH=>?_
 refine ay.of mixed yE ?_
 simp(disch:=omega)only[↓wr,seval,wq,tG,aQ,encI]
 refine aW.up r.right.length (λi T H'=>∃top:Int,0<=top/\top<=1000/\gx h (r.right.drop i) top=gx h r.right 0/\T 1=encI h/\T 2=.aR (aQ r) 0/\T 5=gi top/\T 6=gi i) ⟨0,by omega,by omega,rfl,rfl,rfl,rfl,rfl⟩ ?_
 rintro i k T H hk ⟨top,o,h1,a,t1,t2,t5,t6⟩
 simp(disch:=omega)only[↓wr,seval,wq,qI,t1,t2,t5,t6,aQ,encI]
 apply ao.dec<;>intro p
 .have e:r.right[i]?=some (r.right[i]'(by omega)):=aaQ (by omega)
  have b:r.right[i]'(by omega)∈r.right:=aaW _
  rw[eM (show i<r.right.length by omega)] at a
  generalize r.right[i]'(by omega)=x at e b a
  obtain⟨⟨q,s⟩,f⟩:=n x b
  simp(disch:=omega)only[↓wr,seval,wq,t1,t2,t5,t6,aQ,encI,aaS,e]
  apply ao.dec<;>intro g
  .simp(disch:=omega)only[↓wr,seval,wq,t1,t2,t5,t6,aQ,encI]
   rw[gx,aaT (show 0<=x from g)] at a
   exact aE hk (by omega) ⟨top,o,h1,a,t1,t2,t5,rfl⟩
  .have hm:cw x<h.length:=by have:=f (by omega);unfold cw;omega
   have d:=C0 hm
   have t:=j (cw x)
   rw[gx,aaR g] at a
   generalize gE h (cw x)=v at d t a
   simp(disch:=omega)only[↓wr,seval,wq,t1,t2,t5,t6,aQ,encI,aaS,e,d]
   apply ao.eq<;>intro c
   .simp(disch:=omega)only[↓wr,seval,wq,t1,t2,t5,t6]
    rw[aaT c] at a
    rw[<-a]
   .simp(disch:=omega)only[↓wr,seval,wq,t1,t2,t5,t6,Ul]
    rw[aaR c] at a
    exact aE hk (by omega) ⟨_,by omega,by omega,a,t1,t2,rfl,rfl⟩
 .simp(disch:=omega)only[↓wr,seval,wq,t1,t2,t5,t6]
  rw[abg (by omega),gx] at a
  rw[a]
def aak (g:aj) (old:List Int) (k:Int) (b d i:Nat) (T:Env) (H:View):Prop:=
 ∃out:List Int,out.length=g.av.length/\(g.rules.drop i).foldl (lC old k) out=g.rules.foldl (lC old k) old/\b≠d/\H b=.arr 1 (aM out)/\H d=.arr 1 (aM old) /\
  T 1=.aR (ak g) 0/\T 3=.sl b 0 g.av.length 1/\T 4=gi k/\T 5=.sl d 0 g.av.length 1/\T 6=gi i
theorem Ba (g:aj) (D:g.Ok):cg aa 136 [.agg (ak g)] (encI (if bt g=true then fZ (aA g) else [])):=by
 refine cg.of (dS g) ?_
 refine ay.of mixed vz ?_
 have y:=D.av
 unfold aI at y
 simp(disch:=omega)only[↓wr,seval,wq,pf,ak,encS]
 refine az.pure (j7 g D) ?_
 repeat' (first | ((first|apply ao.dec|apply ao.eq|apply ao.ne|apply ao.split)<;>intro)|(simp(disch:=omega)only[↓wr,seval,wq,ak,encS]))
 .rename_i hr
  have A:=bE hr
  have N:=A.lp
  have z2:=A.av
  have z3:=A.rules
  rw[aaT hr]
  try simp(disch:=omega)only[↓wr,seval,wq,ak,encS]
  refine⟨⟨by omega,by unfold aF;omega,by unfold aF;omega⟩,λh=>by omega,?_⟩
  intro _ b
  try simp(disch:=omega)only[↓wr,seval,wq,ak,encS]
  refine aW.up g.av.length (λj T H'=>H' b=.arr 1 (aM (fZ (aG g j)))/\T 1=.aR (ak g) 0/\T 3=.sl b 0 g.av.length 1/\T 4=gi ((j:Int)+1)) ?_ ?_
  .refine⟨?_,rfl,rfl,rfl⟩
   simp[View.set,aG,iter,ka]
  rintro j k T H hk ⟨f,t1,t3,t4⟩
  simp(disch:=omega)only[↓wr,seval,wq,nH,t1,t3,t4,ak,encS]
  apply ao.dec<;>intro K
  .have hlen:=fH g j
   obtain⟨nl,v⟩:∃nl,g.av.length=nl+1:=⟨g.av.length-1,by omega⟩
   have he:bM H (.sl b 0 g.av.length 1)=some (aM (fZ (aG g j)),[b]):=by
    rw[v,j6 _ b 0 nl 1 1 _ f (by simp[hlen,v]),abP,aa6 (by simp[hlen,v])]
   have E:(aM (fZ (aG g j))).isEmpty=false:=by
    cases L:aG g j with
    | nil=>rw[L] at hlen;simp at hlen;omega
    | cons=>rfl
   simp(disch:=omega)only[↓wr,seval,wq,t1,t3,t4,he,xb _ _ _ _ _ _ _ E,hlen]
   refine⟨by simp[ab9,aK],⟨by unfold aF;omega,by unfold aF;omega⟩,λd t=>?_⟩
   have o:b≠d:=by rintro rfl;rw[f] at t;simp at t
   refine aW.up g.rules.length (aak g (fZ (aG g j)) ((j:Int)+1) b d) ⟨fZ (aG g j),by simp[hlen],rfl,o,by simp[View.set,o,f],by simp[View.set],t1,t3,t4,rfl,rfl⟩ ?_
   clear t1 t3 t4 f he t
   rintro i q T H F ⟨out,w,a,_,f,t,t1,t3,t4,t5,t6⟩
   simp(disch:=omega)only[↓wr,seval,wq,nD,t1,t3,t4,t5,t6,ak]
   apply ao.dec<;>intro G
   .have B:g.rules[i]?=some (g.rules[i]'(by omega)):=aaQ (by omega)
    have s:g.rules[i]'(by omega)∈g.rules:=aaW _
    rw[eM (show i<g.rules.length by omega),abF] at a
    generalize g.rules[i]'(by omega)=r at B s a
    have I:=A.qz D s
    have O:=A.left r s
    have p:=Rc (h:=out) (m:=r.left.toNat) (by omega)
    have C:=LF (g:=g) z3 (show j<=16 by omega)
    have x:(fZ (aG g j)).length=g.av.length:=by simp[hlen]
    unfold lC at a
    generalize fZ (aG g j)=old at t C x a ⊢
    simp(disch:=omega)only[↓wr,seval,wq,t1,t3,t4,t5,t6,ak,aQ,encI,aaS,B]
    intro n y
    have c:b≠n:=by rintro rfl;rw[f] at y;simp at y
    have u:d≠n:=by rintro rfl;rw[t] at y;simp at y
    try simp(disch:=omega)only[↓wr,seval,wq,t1,t3,t4,t5,t6,ak,aQ,encI,f,c,c.symm,p]
    refine⟨by omega,by omega,?_⟩
    apply ao.eq<;>intro J
    .simp(disch:=omega)only[↓wr,seval,wq,t1,t3,t4,t5,t6,ak,aQ,encI,f,c,c.symm,p]
     refine az.xE (Ik r old C (by rw[x];exact I)) (by kernel_rfl) (.val _) ⟨ct.tree (bW _ (gn r)),Gc (l:=old) (by simp[View.set,u,t]) x.symm,trivial⟩ ?_
     simp(disch:=omega)only[↓wr,seval,wq,t1,t3,t4,t5,t6,ak,aQ,encI,f,c,c.symm,p]
     apply ao.eq<;>intro z
     .simp(disch:=omega)only[↓wr,seval,wq,t1,t3,t4,t5,t6,ak,aQ,encI,f,c,c.symm,p]
      refine⟨by omega,by omega,?_⟩
      rw[aaT ⟨J,z⟩] at a
      refine aE F (by omega) ⟨_,by simp[w],a,o,?_,by simp[View.set,o.symm,u,t],t1,t3,t4,t5,rfl⟩
      simp only[View.set,if_true]
      rw[<-Ut]
     .simp(disch:=omega)only[↓wr,seval,wq,t1,t3,t4,t5,t6,ak,aQ,encI,f,c,c.symm,p]
      rw[aaR (λe=>z e.2)] at a
      exact aE F (by omega) ⟨out,w,a,o,by simp[View.set,c,f],by simp[View.set,u,t],t1,t3,t4,t5,rfl⟩
    .simp(disch:=omega)only[↓wr,seval,wq,t1,t3,t4,t5,t6,ak,aQ,encI,f,c,c.symm,p]
     rw[aaR (λe=>J e.1)] at a
     exact aE F (by omega) ⟨out,w,a,o,by simp[View.set,c,f],by simp[View.set,u,t],t1,t3,t4,t5,rfl⟩
   .simp(disch:=omega)only[↓wr,seval,wq,t1,t3,t4,t5,t6]
    rw[abg (by omega),acY,XW] at a
    rw[a] at f
    exact aE hk (by omega) ⟨f,t1,t3,rfl⟩
  .simp(disch:=omega)only[↓wr,seval,wq,t1,t3,t4]
   intro M z
   have:j=g.av.length:=by omega
   subst this
   exact jA (by rw[z];exact .inr ⟨b,by simp[gS],f⟩)
 .rename_i hr
  rw[hr]
  intro M z
  exact .emp _
def pn:SC:=
 ai [ai [ag [af 20 7,aH 21 .geq 20 0],bP 21 (.exit 2)],.block 3 (ai [.region true [⟨none,[aw 24 2 1,au 25 24,af 26 7,aL 27 3 25 26,aw 28 0 27,au 29 28,af 30 5,aS 31 .eql 29 30,af 32 31]⟩,⟨(some (32,true)),[af 33 3,af 34 5,aL 35 1 33 34,au 36 35,aH 37 .gtr 36 0]⟩,⟨none,[dO 38 32 37,af 39 38]⟩,⟨(some (39,true)),[aw 40 2 1,au 41 40,af 42 7,aL 43 3 41 42,aU 44 3 43,af 45 3,aV 46 137 [44,45],af 47 3,af 48 5,aL 49 1 47 48,au 50 49,aS 51 .eql 46 50]⟩,⟨none,[dO 52 39 51]⟩],aX 52 (ag [af 53 7,af 6 53])]),ag [af 22 7,aH 23 .sub 22 1,af 7 23]]
def kK:SC:=
 ai [ai [ag [af 10 5,af 11 3,aN 12 11,aS 13 .lss 10 12],bP 13 (.exit 0)],.block 1 (ai [ag [aT 6 (-1)],ai [ag [aw 16 2 1,au 17 16,aN 18 17,aH 19 .sub 18 1,af 7 19],bQ 2 pn],ag [af 54 4,af 55 6,((some 56),.op (.bN 1 1 [(.val (.int .i64 0))] [(0,(.tmp 55))])),fL 57 1 8 54 56,af 4 57]]),ag [af 14 5,aH 15 .add 14 1,af 5 15]]
def rN:SF:=⟨ai [ag [cm 1 0,bT 2 1],ag [aU 8 4 1,aV 9 136 [8],af 3 9],ag [bT 4 1],ai [ag [aT 5 0],bQ 0 kK],ag [af 58 4,af 2 58],.ret],
 [.tmp 2],59⟩
theorem xY:aJ aa 73 [1]=some rN:=by kernel_rfl
theorem Ps {h:List Int} {m:Nat} {l:List bc} {c:Nat} {r:bc} (hr:l[c]?=some r):lU h m (l.drop c) c=if r.left=(m:Int)/\0<gE h m/\gx h r.right 0=gE h m then (c:Int) else lU h m (l.drop (c+1)) ((c:Int)+1):=by
 have a:c<l.length:=(aaX.1 hr).1
 have he:l[c]=r:=(aaX.1 hr).2
 rw[abA a,he,lU]
def aao (g:aj) (h:List Int) (u:V) (j c:Nat) (T:Env) (H:View):Prop:=
 c<=g.rules.length/\T 1=.aR (ak g) 0/\T 3=encI h/\T 4=u/\aP H u 1 (aM ((List.range j).map λm=>lU h m g.rules 0))/\T 5=gi j/\T 6=gi (lU h j (g.rules.drop c) c)/\T 7=gi ((c:Int)-1)
theorem EU (g:aj) (A:g.Ok):cg aa 73 [.agg (ak g)] (encI (if bt g=true then iV g else [])):=by
 refine cg.of (dS g) ?_
 refine ay.of mixed xY ?_
 simp(disch:=omega)only[↓wr,seval,wq,rN,ak,encS]
 refine az.pure (Ba g A).pure ?_
 by_cases hr:bt g=true
 .have l:=bE hr
  have J:=l.lp
  have z2:=l.av
  have z3:=l.rules
  rw[aaT hr,aaT hr]
  have t:iV g=(List.range g.av.length).map λm=>lU (fZ (aA g)) m g.rules 0:=by
   apply abJ (by simp[iV,gS])
   intro m h1 q
   simp only[iV,acN,ac1]
   rw[PB (λr v=>(l.left r v).1)]
   have:m<(aA g).length:=by simpa [iV] using h1
   simp[bA,aaP,this]
  have o:UK (fZ (aA g)):=LF z3 z2
  have p:(fZ (aA g)).length=g.av.length:=by simp[gS]
  rw[t]
  generalize fZ (aA g)=h at o p ⊢
  simp(disch:=omega)only[↓wr,seval,wq,encI,ak,encS]
  refine aW.up g.av.length (λj T H'=>∃u,T 4=u/\aP H' u 1 (aM ((List.range j).map λm=>lU h m g.rules 0))/\T 1=.aR (ak g) 0/\T 3=encI h/\T 5=gi j) ⟨_,rfl,.nil,rfl,rfl,rfl⟩ ?_
  rintro j k T H hk ⟨u,t4,b,t1,t3,t5⟩
  simp(disch:=omega)only[↓wr,seval,wq,kK,t1,t3,t4,t5,encI]
  apply ao.dec<;>intro s
  .have i:=C0 (h:=h) (m:=j) (by omega)
   simp(disch:=omega)only[↓wr,seval,wq,t1,t3,t4,t5,encI,ak]
   refine aW.intro (aao g h u j) g.rules.length ?_ ?_
   .refine⟨by omega,t1,t3,t4,b,t5,?_,rfl⟩
    rw[abg (by omega)];rfl
   clear t1 t3 t4 t5 b
   rintro c T H ⟨D,t1,t3,t4,b,t5,t6,t7⟩
   simp(disch:=omega)only[↓wr,seval,wq,pn,t1,t3,t4,t5,t6,t7,encI,ak]
   apply ao.dec<;>intro w
   .obtain⟨c,rfl⟩:∃E,c=E+1:=⟨c-1,by omega⟩
    have a:g.rules[c]?=some (g.rules[c]'(by omega)):=aaQ (by omega)
    have f:g.rules[c]'(by omega)∈g.rules:=aaW _
    generalize g.rules[c]'(by omega)=r at a f
    have x:=l.qz A f
    have d:=Ps (h:=h) (m:=j) a
    have B:(((c+1:Nat):Int)-1)=(c:Int):=by omega
    rw[B] at t7
    try simp only[B]
    rw[show (((c+1:Nat):Int))=(c:Int)+1 by omega] at t6
    simp(disch:=omega)only[↓wr,seval,wq,t1,t3,t4,t5,t6,t7,encI,ak,aQ,aaS,a]
    apply ao.eq<;>intro h1
    .simp(disch:=omega)only[↓wr,seval,wq,t1,t3,t4,t5,t6,t7,encI,ak,aQ,aaS,a,i]
     apply ao.dec<;>intro q
     .simp(disch:=omega)only[↓wr,seval,wq,t1,t3,t4,t5,t6,t7,encI,ak,aQ,aaS,a,i]
      refine az.pure (Ik r h o (by rw[p];exact x)) ?_
      simp(disch:=omega)only[↓wr,seval,wq,t1,t3,t4,t5,t6,t7,encI,ak,aQ,aaS,a,i]
      apply ao.eq<;>intro y
      .simp(disch:=omega)only[↓wr,seval,wq,t1,t3,t4,t5,t6,t7]
       refine⟨c,by omega,by omega,t1,t3,t4,b,t5,?_,rfl⟩
       rw[d,aaT ⟨h1,q,y⟩];rfl
      .simp(disch:=omega)only[↓wr,seval,wq,t1,t3,t4,t5,t6,t7]
       refine⟨c,by omega,by omega,t1,t3,t4,b,t5,?_,rfl⟩
       rw[d,aaR (λe=>y e.2.2)];exact t6
     .simp(disch:=omega)only[↓wr,seval,wq,t1,t3,t4,t5,t6,t7]
      refine⟨c,by omega,by omega,t1,t3,t4,b,t5,?_,rfl⟩
      rw[d,aaR (λe=>q e.2.1)];exact t6
    .simp(disch:=omega)only[↓wr,seval,wq,t1,t3,t4,t5,t6,t7]
     refine⟨c,by omega,by omega,t1,t3,t4,b,t5,?_,rfl⟩
     rw[d,aaR (λe=>h1 e.1)];exact t6
   .have F:c=0:=by omega
    subst F
    simp only[abP,Int.natCast_zero] at t6
    simp(disch:=omega)only[↓wr,seval,wq,t1,t3,t4,t5,t6,t7]
    intro n G
    rw[bG]
    simp(disch:=omega)only[↓wr,seval,wq,t1,t3,t4,t5,t6,t7]
    refine eL (b.fresh G) (by simp[aK]) (by unfold aF;simp;omega) (by unfold aF;simp;omega) ?_
    intro u' H' z _
    simp(disch:=omega)only[↓wr,seval,wq,t1,t3,t4,t5,t6,t7]
    refine aE hk (by omega) ⟨u',rfl,?_,t1,t3,rfl⟩
    rw[acj];simpa using z
  .simp(disch:=omega)only[↓wr,seval,wq,t1,t3,t4,t5]
   intro I C
   have:j=g.av.length:=by omega
   subst this
   exact jA (by rw[C];exact b)
 .have hr:bt g=false:=by simpa using hr
  rw[hr]
  simp(disch:=omega)only[↓wr,seval,wq,encI,ak,encS]
  refine aW.up 0 (λj T H'=>T 3=.aZ []/\T 4=.emp 1/\T 5=gi j) ⟨rfl,rfl,rfl⟩ ?_
  rintro j k T H hk ⟨t3,t4,t5⟩
  simp(disch:=omega)only[↓wr,seval,wq,kK,t3,t4,t5]
  refine ao.dec (λs=>absurd s (by simp)) (λs=>?_)
  simp(disch:=omega)only[↓wr,seval,wq,t3,t4,t5]
  intro I C
  exact .emp _
def fJ (s:Int × Int):List V:=[gi s.1,gi s.2]
abbrev Fx (S:List (Int × Int)):V:=.aZ (S.map fJ)
theorem wa (s:Int × Int):∀v∈fJ s,Tree v:=by
 intro v a;simp[fJ] at a
 rcases a with rfl | rfl<;>exact .val _
theorem PN (S:List (Int × Int)):Tree (Fx S):=fi _ _ λs _ v a=>wa s v a
theorem WD (h:Heap) (s:Int × Int):dD h (.agg (fJ s)) (.agg (fJ s)):=.agg _ _ rfl λi hi=>by
 match i,hi with
 | 0,_=>exact .val _
 | 1,_=>exact .val _
 | n+2,h=>exact absurd h (by simp[fJ])
def lE (s:Int × Int):Prop:=(0<=s.1/\s.1<=1000)/\(0<=s.2/\s.2<=1000)
theorem Hn {a b:Int × Int} (c:lE a) (d:lE b):lE (pW a b):=by unfold lE pW at *;simp only;omega
theorem Zj {x:Int} : (if x<1000 then x else 1000)=min 1000 x:=by omega
def tE:SF:=⟨ai [ag [cm 2 0,cm 3 1,((some 4),.op (.alloc [(.val (.int .i64 0)),(.val (.int .i64 0))]))],ag [aw 5 0 2,au 6 5,aw 7 0 3,au 8 7,aS 9 .add 6 8,((some 10),.op (.mm false (.val (.val (.int .i64 1000))) (.tmp 9))),aw 11 1 2,au 12 11,aw 13 1 3,au 14 13,aS 15 .add 12 14,((some 16),.op (.mm false (.val (.val (.int .i64 1000))) (.tmp 15))),((some 17),.op (.build [(.val (.int .i64 0)),(.val (.int .i64 0))] [(0,1,(.tmp 10)),(1,1,(.tmp 16))])),cz 2 4 17],.ret],
 [.cell 4 (some 2)],18⟩
theorem y9:aJ aa 138 [2,3]=some tE:=by kernel_rfl
def qH:SC:=
 ai [ai [ag [af 8 6,af 9 0,aN 10 9,aS 11 .lss 8 10],bP 11 (.exit 0)],.block 1 (ai [ag [af 14 0,af 15 6,aL 16 1 14 15,au 17 16,aH 18 .geq 17 0],.cond (.tmp 18) (ag [aU 19 2 5,((some 20),.op (.build [(.val (.int .i64 0)),(.val (.int .i64 0))] [(1,1,(.val (.val (.int .i64 1))))])),aV 21 138 [19,20],cz 2 5 21]) (ag [aU 22 2 5,af 23 1,af 24 0,af 25 6,aL 26 1 24 25,au 27 26,((some 28),.op (.arith .sub (.val (.val (.int .i64 (-1)))) (.tmp 27))),aL 29 2 23 28,aU 30 2 29,aV 31 138 [22,30],cz 2 5 31])]),ag [af 12 6,aH 13 .add 12 1,af 6 13]]
def tP:SF:=⟨ai [ag [((some 4),.op (.alloc [(.val (.int .i64 0)),(.val (.int .i64 0))]))],ag [((some 7),.op (.build [(.val (.int .i64 0)),(.val (.int .i64 0))] [])),((some 5),.op (.alloc [(.val (.int .i64 0)),(.val (.int .i64 0))])),cz 2 5 7],ai [ag [aT 6 0],bQ 0 qH],ag [aU 32 2 5,cz 2 4 32],.ret],
 [.cell 4 (some 2)],33⟩
theorem yw:aJ aa 75 []=some tP:=by kernel_rfl
theorem G2 (a b:Int × Int) (d:lE a) (e:lE b):cg aa 138 [.agg (fJ a),.agg (fJ b)] (.agg (fJ (pW a b))):=by
 unfold lE at d e
 refine cg.of (by
  intro v c;simp at c
  rcases c with rfl | rfl
  .exact bW _ (wa a)
  .exact bW _ (wa b)) ?_
 refine ay.of mixed y9 ?_
 simp(disch:=omega)only[↓wr,seval,wq,tE,fJ,Zj]
 intro n f _
 exact WD f (pW a b)
theorem XF {H:View} {id n:Nat} {S:List (Int × Int)} (a:H id=.arr 2 (S.map fJ)) (b:n=S.length):ct H (.sl id 0 n 2) (Fx S):=by
 subst b
 exact ct.own (sz:=2) (.inr ⟨id,by simp,a⟩) λe he v a=>by
  obtain⟨x,_,rfl⟩:=aba.1 he
  exact wa x v a
theorem X6 {S:List (Int × Int)} {m:Nat} (hm:m<S.length):(S.map fJ)[m]?=some (fJ (lD S m)):=by simp[lD,aaP,hm]
theorem NY (l:List Int) (S:List (Int × Int)) (y:aI l) (A:∀m,lE (lD S m)) (B:∀x∈l,bm x/\(x<0->-1-x<S.length)):cg aa 75 [encI l,Fx S] (.agg (fJ (oR S l (0,0)))):=by
 unfold aI at y
 refine cg.of (by
  intro v w;simp at w
  rcases w with rfl | rfl
  .exact bC l
  .exact PN S) ?_
 refine ay.of mixed yw ?_
 simp(disch:=omega)only[↓wr,seval,wq,tP,encI]
 intro n o f
 try simp(disch:=omega)only[↓wr,seval,wq,encI]
 have c:n≠o:=λe=>by subst e;simp[View.set] at f
 refine aW.up l.length (λi T H'=>∃s:Int × Int,lE s/\oR S (l.drop i) s=oR S l (0,0)/\H' o=.arr 2 [fJ s]/\(∃z,H' n=.arr 2 [[z,z]])/\T 0=encI l/\T 1=Fx S/\T 4=.ptr n 0 0/\T 5=.ptr o 0 0/\T 6=gi i) ?_ ?_
 .exact⟨(0,0),by unfold lE;simp,rfl,by simp[View.set,fJ],⟨gi 0,by simp[View.set,c]⟩,rfl,rfl,rfl,rfl,rfl⟩
 clear f
 rintro i k T H hk ⟨s,g,a,hH,⟨z,p⟩,t0,t1,t4,t5,t6⟩
 have q:=g
 unfold lE at q
 simp(disch:=omega)only[↓wr,seval,wq,qH,t0,t1,t4,t5,t6,encI]
 apply ao.dec<;>intro C
 .have r:l[i]?=some (l[i]'(by omega)):=aaQ (by omega)
  have b:l[i]'(by omega)∈l:=aaW _
  rw[eM (show i<l.length by omega),oR] at a
  generalize l[i]'(by omega)=x at r b a
  obtain⟨⟨D,E⟩,t⟩:=B x b
  simp(disch:=omega)only[↓wr,seval,wq,t0,t1,t4,t5,t6,encI,aaS,r]
  apply ao.dec<;>intro u
  .rw[aaT (show 0<=x from u)] at a
   simp(disch:=omega)only[↓wr,seval,wq,t0,t1,t4,t5,t6,hH,fJ]
   refine az.pure (G2 s (0,1) g (by unfold lE;simp)).pure ?_
   have h:=Hn g (show lE (0,1) by unfold lE;simp)
   generalize pW s (0,1)=s2 at a h
   simp(disch:=omega)only[↓wr,seval,wq,t0,t1,t4,t5,t6,hH,fJ]
   refine aE hk (by omega) ⟨s2,h,a,by simp[View.set,fJ],⟨z,by simp[View.set,c,p]⟩,t0,t1,t4,t5,rfl⟩
  .rw[aaR (show ¬ 0<=x from u)] at a
   have hm:cw x<S.length:=by have:=t (by omega);unfold cw;omega
   have j:=X6 hm
   have d:=A (cw x)
   generalize lD S (cw x)=s1 at a j d
   simp(disch:=omega)only[↓wr,seval,wq,t0,t1,t4,t5,t6,hH,encI,aaS,r,j,fJ]
   refine az.pure (G2 s s1 g d).pure ?_
   have h:=Hn g d
   generalize pW s s1=s2 at a h
   simp(disch:=omega)only[↓wr,seval,wq,t0,t1,t4,t5,t6,hH,fJ]
   refine aE hk (by omega) ⟨s2,h,a,by simp[View.set,fJ],⟨z,by simp[View.set,c,p]⟩,t0,t1,t4,t5,rfl⟩
 .simp(disch:=omega)only[↓wr,seval,wq,t0,t1,t4,t5,t6,hH,p,fJ]
  rw[abg (by omega),oR] at a
  intro F _
  rw[<-a]
  exact WD F s
def po:SC:=
 ai [ai [ag [af 21 7,af 22 3,aN 23 22,aS 24 .lss 21 23],bP 24 (.exit 2)],.block 3 (ai [ag [af 27 3,af 28 7,aL 29 1 27 28,au 30 29,af 31 6,aS 32 .eql 30 31],aX 32 (ag [af 33 5,af 34 7,((some 35),.op (.build [(.val (.int .i64 0)),(.val (.int .i64 0))] [(0,1,(.val (.val (.int .i64 1))))])),aw 36 2 1,au 37 36,af 38 4,af 39 7,aL 40 1 38 39,au 41 40,aL 42 3 37 41,aw 43 1 42,au 44 43,af 45 5,aV 46 75 [44,45],aV 47 138 [35,46],aL 48 2 33 34,cz 2 48 47])]),ag [af 25 7,aH 26 .add 25 1,af 7 26]]
def pQ:SC:=
 ai [ai [ag [af 15 6,af 16 3,aN 17 16,aS 18 .leq 15 17],bP 18 (.exit 0)],.block 1 (ai [ag [aT 7 0],bQ 2 po]),ag [af 19 6,aH 20 .add 19 1,af 6 20]]
def rL:SF:=⟨ai [ag [cm 1 0,bT 2 1],.region true [⟨none,[aU 8 4 1,aV 9 136 [8],aU 10 4 1,aV 11 73 [10],af 3 9,af 4 11]⟩],ag [af 12 3,aN 13 12,((some 14),.op (.make 2 16 [(.val (.int .i64 0)),(.val (.int .i64 0))] (.tmp 13) (.tmp 13))),af 5 14],ai [ag [aT 6 1],bQ 0 pQ],ag [af 49 5,af 2 49],.ret],
 [.tmp 2],50⟩
theorem xM:aJ aa 76 [1]=some rL:=by kernel_rfl
theorem Mq {S:List (Int × Int)} (a:∀m,lE (lD S m)):∀(l:List Int) (s:Int × Int),lE s->lE (oR S l s)
 | [],_,h=>h
 | x::l,s,h=>Mq a l _ (Hn h (by
  split; · unfold lE;simp
  .exact a _))
def nz (g:aj):List (Int × Int):=(aA g).map lP
theorem CK:lP ka=(0,0):=by decide
theorem Ec (g:aj) (m:Nat):lD (nz g) m=lP (bA (aA g) m):=by
 simp only[nz,lD,bA,aaP,aaS]
 cases (aA g)[m]? <;> rfl
theorem RB (g:aj) (m:Nat):lE (lP (bA (aA g) m)):=by
 have h:eY (bA (aA g) m):=j4 g _ m
 unfold eY at h
 unfold lE lP;simp only;omega
def ke (g:aj) (j i:Nat) (S:List (Int × Int)):Prop:=S.length=g.av.length/\∀m,lD S m=if (bA (aA g) m).bH<=j∨((bA (aA g) m).bH=j+1/\m<i) then lP (bA (aA g) m) else (0,0)
theorem ke.ok {g:aj} {j i:Nat} {S:List (Int × Int)} (h:ke g j i S) (m:Nat):lE (lD S m):=by
 rw[h.2 m];split
 .exact RB g m
 .unfold lE;simp
theorem XS {S:List (Int × Int)} {i m:Nat} {v:Int × Int} (hm:m<S.length):lD (S.set i v) m=if i=m then v else lD S m:=by
 simp only[lD,aaP,abI]
 split
 .rename_i e;subst e;simp[hm]
 .rfl
theorem ke.next {g:aj} {j i:Nat} {S:List (Int × Int)} (h:ke g j i S) (hi:(bA (aA g) i).bH≠(j:Int)+1):ke g j (i+1) S:=⟨h.1,λm=>by
 rw[h.2 m]
 by_cases e:m=i
 .subst e
  by_cases h1:(bA (aA g) m).bH<=j
  .rw[aaT (.inl h1),aaT (.inl h1)]
  .rw[aaR (by omega),aaR (by omega)]
 .congr 1
  simp only[eq_iff_iff]
  constructor<;>rintro (h1 | h1)<;>first | exact .inl h1 | exact .inr ⟨h1.1,by omega⟩⟩
theorem ke.put {g:aj} {j i:Nat} {S:List (Int × Int)} (h:ke g j i S) (hi:(bA (aA g) i).bH=(j:Int)+1) (a:i<g.av.length):ke g j (i+1) (S.set i (lP (bA (aA g) i))):=⟨by simp[h.1],λm=>by
 by_cases hm:m<S.length
 .rw[XS hm]
  by_cases e:i=m
  .subst e;rw[aaT rfl,aaT (.inr ⟨hi,by omega⟩)]
  .rw[aaR e,h.2 m]
   congr 1
   simp only[eq_iff_iff]
   constructor<;>rintro (h1 | h1)<;>first | exact .inl h1 | exact .inr ⟨h1.1,by omega⟩
 .have:bA (aA g) m=ka:=y4 (by rw[gS,<-h.1];omega)
  have e:lD (S.set i (lP (bA (aA g) i))) m=(0,0):=by
   simp only[lD,aaP];rw[abr (by simp;omega)];rfl
  rw[e,this]
  split<;>simp[CK]⟩
theorem ke.U7 {g:aj} {j:Nat} {S:List (Int × Int)} (h:ke g j g.av.length S):ke g (j+1) 0 S:=⟨h.1,λm=>by
 rw[h.2 m]
 by_cases hm:m<g.av.length
 .congr 1
  simp only[eq_iff_iff]
  push_cast
  constructor
  .rintro (h1 | h1)<;>left<;>omega
  .rintro (h1 | h1)
   .omega
   .omega
 .have:bA (aA g) m=ka:=y4 (by rw[gS];omega)
  rw[this];split<;>split<;>simp[CK]⟩
theorem ke.start (g:aj):ke g 0 0 (List.replicate g.av.length (0,0)):=⟨by simp,λm=>by
 have e:lD (List.replicate g.av.length (0,0)) m=(0,0):=by
  simp only[lD,aaP,abH]
  split<;>rfl
 rw[e]
 split
 .rename_i h
  by_cases hk:bJ (aA g) m
  .have:=(lJ hk).1;omega
  .rw[ze hk];simp[CK]
 .rfl⟩
theorem ke.done {g:aj} {S:List (Int × Int)} (h:ke g g.av.length 0 S):S=nz g:=by
 apply abJ (by simp[h.1,nz,gS])
 intro m h1 a
 have e:S[m]=lD S m:=by simp[lD,aaP,h1]
 have b:(nz g)[m]=lD (nz g) m:=by simp[lD,aaP,a]
 rw[e,b,h.2 m,Ec]
 by_cases hk:bJ (aA g) m
 .rw[aaT (.inl (lJ hk).2)]
 .rw[ze hk];split<;>simp[CK]
theorem VE (g:aj) (B:g.Ok) (hr:bt g=true):cg aa 76 [.agg (ak g)] (Fx (nz g)):=by
 refine cg.of (dS g) ?_
 refine ay.of mixed xM ?_
 simp(disch:=omega)only[↓wr,seval,wq,rL,ak,encS]
 refine az.pure (Ba g B).pure ?_
 simp(disch:=omega)only[↓wr,seval,wq]
 refine az.pure (EU g B).pure ?_
 have A:=bE hr
 have W:=A.lp
 have z2:=A.av
 have z3:=A.rules
 rw[aaT hr,aaT hr]
 have a:=gS g
 simp(disch:=omega)only[↓wr,seval,wq,encI,ak,encS,a,aaU]
 refine⟨⟨by omega,by unfold aF;omega,by unfold aF;omega⟩,λh=>by omega,?_⟩
 intro _ b
 try simp(disch:=omega)only[↓wr,seval,wq]
 refine aW.up g.av.length (λj T H'=>∃S,ke g j 0 S/\H' b=.arr 2 (S.map fJ)/\T 1=.aR (ak g) 0/\T 3=encI (fZ (aA g))/\T 4=encI (iV g)/\T 5=.sl b 0 g.av.length 2/\T 6=gi ((j:Int)+1)) ?_ ?_
 .refine⟨_,.start g,?_,rfl,rfl,rfl,rfl,rfl⟩
  simp[View.set,fJ]
 rintro j k T H hk ⟨S,c,d,t1,t3,t4,t5,t6⟩
 simp(disch:=omega)only[↓wr,seval,wq,pQ,t1,t3,t4,t5,t6,encI,a,aaU]
 apply ao.dec<;>intro L
 .simp(disch:=omega)only[↓wr,seval,wq,t1,t3,t4,t5,t6,encI,a,aaU]
  refine aW.up g.av.length (λi T H'=>∃S,ke g j i S/\H' b=.arr 2 (S.map fJ)/\T 1=.aR (ak g) 0/\T 3=encI (fZ (aA g))/\T 4=encI (iV g)/\T 5=.sl b 0 g.av.length 2/\T 6=gi ((j:Int)+1)/\T 7=gi i) ⟨S,c,d,t1,t3,t4,t5,t6,rfl⟩ ?_
  clear t1 t3 t4 t5 t6 c d
  rintro i q T H I ⟨S,c,d,t1,t3,t4,t5,t6,t7⟩
  simp(disch:=omega)only[↓wr,seval,wq,po,t1,t3,t4,t5,t6,t7,encI,a,aaU]
  apply ao.dec<;>intro C
  .have p:=C0 (h:=fZ (aA g)) (m:=i) (by simp;omega)
   rw[nr] at p
   simp(disch:=omega)only[↓wr,seval,wq,t1,t3,t4,t5,t6,t7,encI,aaS,p]
   apply ao.eq<;>intro hi
   .have s:bJ (aA g) i:=by
     by_cases h:bJ (aA g) i
     .exact h
     .rw[ze h] at hi;simp[ka] at hi;omega
    obtain⟨D,r,f,M,N,E,_⟩:=nS s
    have t:(bA (aA g) i).aB=D:=by rw[E];rfl
    have u:=C0 (h:=iV g) (m:=i) (by simp[iV,a];omega)
    have F:gE (iV g) i=D:=by
     rw[<-t];simp[iV,gE,bA,aaP,a,show i<g.av.length by omega]
    rw[F] at u
    have l:=aa1 f
    have O:D<g.rules.length:=(aaX.1 f).1
    have v:=B.aB r l
    simp(disch:=omega)only[↓wr,seval,wq,t1,t3,t4,t5,t6,t7,encI,ak,aQ,aaS,u,f]
    refine az.kC (NY r.right S v.2.2.1 c.ok λx J=>⟨v.2.2.2 x J,λP=>by rw[c.1];exact A.neg l J P⟩) (by kernel_rfl) ⟨ct.tree (bC r.right),XF d c.1.symm,trivial⟩ ?_
    have w:=QT (S:=S) s f t λk Q R=>by rw[c.2 k,aaT (.inl (by omega))]
    have y:lE (oR S r.right (0,0)):=Mq c.ok _ _ (by unfold lE;simp)
    generalize oR S r.right (0,0)=z at w y
    simp(disch:=omega)only[↓wr,seval,wq,t1,t3,t4,t5,t6,t7]
    refine az.pure (G2 (1,0) z (by unfold lE;simp) y).pure ?_
    rw[w]
    simp(disch:=omega)only[↓wr,seval,wq,t1,t3,t4,t5,t6,t7,d,fJ]
    have U:=c.1
    have G:(S.map fJ).getD i []=fJ (lD S i):=by simp[lD,aaP,show i<S.length by omega]
    refine⟨by omega,by omega,aE I (by omega) ⟨_,c.put hi (by omega),?_,t1,t3,t4,t5,t6,rfl⟩⟩
    simp only[View.set,if_true]
    rw[acB,G];simp only[fJ,acX,List.drop_nil,abP]
   .simp(disch:=omega)only[↓wr,seval,wq,t1,t3,t4,t5,t6,t7]
    exact aE I (by omega) ⟨S,c.next hi,d,t1,t3,t4,t5,t6,rfl⟩
  .simp(disch:=omega)only[↓wr,seval,wq,t1,t3,t4,t5,t6,t7]
   have o:i=g.av.length:=by omega
   subst o
   exact aE hk (by omega) ⟨S,c.U7,d,t1,t3,t4,t5,rfl⟩
 .simp(disch:=omega)only[↓wr,seval,wq,t1,t3,t4,t5,t6]
  have o:j=g.av.length:=by omega
  subst o
  rw[c.done] at d
  intro X V
  exact dD.own (sz:=2) (.inr ⟨b,by simp[nz,a],by rw[V];exact d⟩) rfl (λi _=>rfl) (λi j hi K=>by
   simp only[aaU] at hi
   have e:((nz g).map fJ).getD i []=fJ (nz g)[i]:=by simp[aaP,hi]
   rw[e] at K ⊢
   match j,K with
   | 0,_=>exact .val _
   | 1,_=>exact .val _
   | n+2,h=>exact absurd h (by simp[fJ]))
def qK:SC:=
 ai [ai [ag [af 9 8,af 10 1,aN 11 10,aS 12 .lss 9 11],bP 12 (.exit 0)],.block 1 (ai [ag [af 15 1,af 16 8,aL 17 1 15 16,au 18 17,aH 19 .geq 18 0],.cond (.tmp 19) (ag [af 20 7,af 21 1,af 22 8,aL 23 1 21 22,au 24 23,((some 25),.op (.bN 1 1 [(.val (.int .i64 0))] [(0,(.tmp 24))])),fL 26 1 8 20 25,af 7 26]) (ag [af 27 7,aU 28 4 3,aw 29 2 3,au 30 29,af 31 2,af 32 1,af 33 8,aL 34 1 32 33,au 35 34,((some 36),.op (.arith .sub (.val (.val (.int .i64 (-1)))) (.tmp 35))),aL 37 1 31 36,au 38 37,aL 39 3 30 38,aw 40 1 39,au 41 40,af 42 2,aV 43 77 [28,41,42],fL 44 1 8 27 43,af 7 44])]),ag [af 13 8,aH 14 .add 13 1,af 8 14]]
def sJ:SF:=⟨ai [ag [cm 3 0,bT 6 1],ag [bT 7 1],ai [ag [aT 8 0],bQ 0 qK],ag [af 45 7,af 6 45],.ret],
 [.tmp 6],46⟩
theorem y8:aJ aa 77 [3]=some sJ:=by kernel_rfl
theorem E2 {g:aj} {m:Nat} (h:m<g.av.length):(iV g)[m]?=some (bA (aA g) m).aB:=by
 have:m<(aA g).length:=by rw[gS];exact h
 simp[iV,bA,aaP,this]
theorem R4 (g:aj) (f:Nat) (l:List Int) (i:Nat):(fp g (aA g) f (l.take i)).length<=(fp g (aA g) f l).length:=by
 have:=j0 g (aA g) f (l.take i) (l.drop i)
 rw[acR] at this
 rw[this];simp
theorem Ic (g:aj) (f:Nat) (l:List Int) (i:Nat):(dV g (aA g) f (l.take i)).length<=(dV g (aA g) f l).length:=by
 have:=gu g (aA g) f (l.take i) (l.drop i)
 rw[acR] at this
 rw[this];simp
theorem Tz (g:aj) (L:g.Ok) (M:g.c6):∀(f:Nat) (l:List Int),aI l->(∀x∈l,bm x/\(x<0->-1-x<g.av.length))->De (aA g) f l->(dV g (aA g) f l).length<=100000->∀H:View,
  ay aa 77 [.agg (ak g),encI l,encI (iV g)] H λr H'=>aP H' r 1 (aM (dV g (aA g) f l))/\cn H H' r:=by
 intro f
 induction f using Nat.strongRecOn with
 | _ f N =>
  intro l O z hu hb P
  refine ay.of mixed y8 ?_
  unfold aI at O
  simp(disch:=omega)only[↓wr,seval,wq,sJ,encI,ak,encS]
  refine aW.up l.length (λi T H'=>∃u,T 7=u/\aP H' u 1 (aM (dV g (aA g) f (l.take i)))/\cn P H' u/\T 1=encI l/\T 2=encI (iV g)/\T 3=.aR (ak g) 0/\T 8=gi i) ⟨.emp 1,rfl,by rw[List.take_zero,py];exact .nil,.emp,rfl,rfl,rfl,rfl⟩ ?_
  rintro i k T H hk ⟨u,t7,w,e,t1,t2,t3,t8⟩
  simp(disch:=omega)only[↓wr,seval,wq,qK,t1,t2,t3,t7,t8,encI]
  apply ao.dec<;>intro Q
  .have b:l[i]?=some (l[i]'(by omega)):=aaQ (by omega)
   have a:l[i]'(by omega)∈l:=aaW _
   have d:l.take (i+1)=l.take i++[l[i]'(by omega)]:=by rw[aa9,b];rfl
   have c:=Ic g f l (i+1)
   generalize l[i]'(by omega)=x at b a d
   obtain⟨⟨R,S⟩,A⟩:=z x a
   rw[d,gu] at c
   simp(disch:=omega)only[↓wr,seval,wq,t1,t2,t3,t7,t8,encI,aaS,b]
   apply ao.dec<;>intro B
   .rw[kc (show 0<=x from B)] at c
    simp only[abc,aa3,abn] at c
    simp(disch:=omega)only[↓wr,seval,wq,t1,t2,t3,t7,t8,encI,aaS,b]
    intro n h
    rw[bG]
    simp(disch:=omega)only[↓wr,seval,wq,t1,t2,t3,t7,t8]
    refine eL (w.fresh h) (by simp[aK]) (by unfold aF;simp;omega) (by unfold aF;simp;omega) ?_
    intro U H1 C D
    simp(disch:=omega)only[↓wr,seval,wq,t1,t2,t3,t7,t8]
    refine aE hk (by omega) ⟨U,rfl,?_,(e.put h).step D,t1,t2,t3,rfl⟩
    rw[d,gu,kc (show 0<=x from B)]
    simpa using C
   .obtain⟨f,rfl⟩:∃V,f=V+1:=by
     cases f with
     | zero=>have:=CU hu x a;omega
     | succ f=>exact⟨f,rfl⟩
    obtain⟨E,J⟩:=hu x a (by omega)
    obtain⟨W,r,hi,hr,j,F,_⟩:=vq (f:=f) E (by push_cast at J;exact J)
    have o:=E2 (g:=g) (m:=cw x) (by have:=A (by omega);unfold cw;omega)
    have p:=aa1 hr
    have X:W<g.rules.length:=(aaX.1 hr).1
    have q:=L.aB r p
    rw[k6 (by omega),j] at c
    rw[hi] at o
    simp only[abc] at c
    simp(disch:=omega)only[↓wr,seval,wq,t1,t2,t3,t7,t8,encI,ak,aQ,encS,aaS,b,o,hr]
    have s:=N f (by omega) r.right q.2.2.1 (λy K=>⟨q.2.2.2 y K,λz=>M.neg p K z⟩) F (by omega) H
    simp only[ak,encI,encS] at s
    refine az.cG (s.mono ?_)
    rintro v H2 ⟨Y,t⟩
    obtain⟨rd,he⟩:=Y.elems
    simp(disch:=omega)only[↓wr,seval,wq,t1,t2,t3,t7,t8,he]
    refine eL (w.Uy t) (by simp[ab9,aK]) (by unfold aF;simp;omega) (by unfold aF;simp;omega) ?_
    intro Z H3 G I
    simp(disch:=omega)only[↓wr,seval,wq,t1,t2,t3,t7,t8]
    refine aE hk (by omega) ⟨Z,rfl,?_,(e.call t).step I,t1,t2,t3,rfl⟩
    rw[d,gu,k6 (by omega),j]
    simpa using G
  .simp(disch:=omega)only[↓wr,seval,wq,t1,t2,t3,t7,t8]
   rw[aa6 (by omega)] at w
   exact⟨w,e⟩
def EC (x:List Int × Int):V:=.bb [encI x.1,gi x.2]
theorem lz {h:Heap} {u:V} {x:List Int × Int} (hu:dD h u (encI x.1)):dD h (.bb [u,gi x.2]) (EC x):=KQ hu (.val _)
theorem sL {g:aj} {l:List Int} (h:iE (aA g) l):De (aA g) g.av.length l:=λx a b=>⟨h x a b,(lJ (h x a b)).2⟩
theorem Rz {g:aj} {l:List Int} (h:iE (aA g) l) (a:(bS (aA g) l bo).1.rules<=300):((fp g (aA g) g.av.length l).length:Int)=(bS (aA g) l bo).1.rules:=by
 have:=(ph g g.av.length l bo (sL h) ib).1
 simp only[bo] at this a ⊢
 omega
theorem Jk {g:aj} {l:List Int} (h:iE (aA g) l) (a:(bS (aA g) l bo).1.ax<=60):((dV g (aA g) g.av.length l).length:Int)=(bS (aA g) l bo).1.ax:=by
 have:=(ph g g.av.length l bo (sL h) ib).2
 simp only[bo] at this a ⊢
 omega
def qg:SC:=
 ai [ai [ag [af 15 8,af 16 1,aN 17 16,aS 18 .lss 15 17],bP 18 (.exit 0)],.block 1 (ai [ai [ag [aU 21 4 2,af 22 1,af 23 8,aL 24 1 22 23,au 25 24,aV 26 74 [21,25],cR 27 26],aX 27 (ai [ag [bT 4 1,aT 5 1],.ret])],.region false [⟨none,[af 28 7,af 29 28]⟩,⟨(some (29,false)),[af 30 1,af 31 8,aL 32 1 30 31,au 33 32,aH 34 .lss 33 0,af 35 34]⟩,⟨(some (35,true)),[af 36 6,af 37 1,af 38 8,aL 39 1 37 38,au 40 39,((some 41),.op (.arith .sub (.val (.val (.int .i64 (-1)))) (.tmp 40))),aL 42 1 36 41,au 43 42,aH 44 .lss 43 0]⟩,⟨(some (29,false)),[dO 45 35 44]⟩,⟨none,[cE 46 29 45,af 7 46]⟩]]),ag [af 19 8,aH 20 .add 19 1,af 8 20]]
def tI:SF:=⟨ai [ag [cm 2 0,bT 4 1,aT 5 0],ai [ag [aU 10 4 2,aV 11 50 [10],cR 12 11],aX 12 (ai [ag [bT 4 1,aT 5 1],.ret])],ag [aU 13 4 2,aV 14 73 [13],af 6 14],ag [bh 7 false],ai [ag [aT 8 0],bQ 0 qg],ai [ag [af 47 7],aX 47 (ai [ag [bT 4 1,aT 5 9],.ret])],ag [af 48 1,aU 49 4 2,aV 50 76 [49],aV 51 75 [48,50],((some 9),.op (.alloc [(.val (.int .i64 0)),(.val (.int .i64 0))])),cz 2 9 51],ai [.region false [⟨none,[aw 52 0 9,au 53 52,aH 54 .gtr 53 300,af 55 54]⟩,⟨(some (55,false)),[aw 56 1 9,au 57 56,aH 58 .gtr 57 60]⟩,⟨none,[cE 59 55 58]⟩],aX 59 (ai [ag [bT 4 1,aT 5 13],.ret])],ag [aU 60 4 2,af 61 1,af 62 6,aV 63 77 [60,61,62],af 4 63,aT 5 0],.ret],
 [.tmp 4,.tmp 5],64⟩
theorem yB:aJ aa 34 [2]=some tI:=by kernel_rfl
def nX (P:List bB) (l:List Int):Bool:=l.any λx=>decide (x<0)&&decide ((bA P (cw x)).aB<0)
theorem Pj (P:List bB) (l:List Int) (s:bB):(bS P l s).2 = !nX P l:=by
 have h:=ia P l s
 cases a:nX P l with
 | true =>
  simp only[nX,ab8,aaZ,aa5] at a
  obtain⟨x,b,c,hk⟩:=a
  cases d:(bS P l s).2 with
  | true=>have:=h.1 d x b c;unfold bJ at this;omega
  | false=>rfl
 | false =>
  rw[Bool.not_false,h]
  intro x b c
  simp only[nX,ac6,aaZ,aa5] at a
  have:=a x b
  unfold bJ;omega
theorem IZ (g:aj) (D:g.Ok) (l:List Int) (W:l.length<=1000000) (L:∀x∈l,bm x):cg aa 34 [.agg (ak g),encI l] (EC (dp g l)):=by
 have A:aI l:=by unfold aI;omega
 refine cg.of (by
  intro v E;simp at E
  rcases E with rfl | rfl
  .exact bW _ (cx g)
  .exact bC l) ?_
 refine ay.of mixed yB ?_
 simp(disch:=omega)only[↓wr,seval,wq,tI,ak,encS]
 refine az.pure (j7 g D) ?_
 have bad:∀p:Heap,(bt g&&l.all (dP g))=false->dD p (.bb [.emp 1,gi 1]) (EC (dp g l)):=λp e=>by
  unfold dp;rw[aaR (by rw[e];simp)];exact lz (x:=([],1)) (.emp _)
 repeat' (first | ((first|apply ao.dec|apply ao.eq|apply ao.ne|apply ao.split)<;>intro)|(simp(disch:=omega)only[↓wr,seval,wq,ak,encS]))
 .rename_i hr
  have F:=bE hr
  have X:=F.lp
  have z2:=F.av
  have z3:=F.rules
  have M:=EU g D
  rw[aaT hr] at M
  refine az.pure M.pure ?_
  simp(disch:=omega)only[↓wr,seval,wq,encI]
  refine aW.up l.length (λi T H'=>(l.take i).all (dP g)=true/\T 1=encI l/\T 2=.aR (ak g) 0/\T 6=encI (iV g)/\T 7=gb (nX (aA g) (l.take i))/\T 8=gi i) ⟨rfl,rfl,rfl,rfl,rfl,rfl⟩ ?_
  rintro i k T H hk ⟨b,t1,t2,t6,t7,t8⟩
  simp(disch:=omega)only[↓wr,seval,wq,qg,t1,t2,t6,t7,t8,encI]
  apply ao.dec<;>intro O
  .have a:l[i]?=some (l[i]'(by omega)):=aaQ (by omega)
   have d:l[i]'(by omega)∈l:=aaW _
   have u:l.take (i+1)=l.take i++[l[i]'(by omega)]:=by rw[aa9,a];rfl
   generalize l[i]'(by omega)=x at a d u
   have r:=L x d
   have G:=r
   unfold bm at G
   simp(disch:=omega)only[↓wr,seval,wq,t1,t2,t6,t7,t8,encI,ak,encS,aaS,a]
   refine az.pure (RV g x r) ?_
   have f:nX (aA g) (l.take (i+1))=(nX (aA g) (l.take i)||(decide (x<0)&&decide ((bA (aA g) (cw x)).aB<0))):=by
    rw[u];simp[nX]
   have q:(l.take (i+1)).all (dP g)=dP g x:=by
    rw[u,ac3,b];simp
   generalize nX (aA g) (l.take i)=P at t7 f
   simp(disch:=omega)only[↓wr,seval,wq,t1,t2,t6,t7,t8,encI,ak,encS,aaS,a]
   apply ao.split<;>intro s
   .have I:x<0->cw x<g.av.length:=λc=>by
     unfold dP at s
     rw[aaR (by omega)] at s
     simp at s
     unfold cw;omega
    rw[s] at q
    simp(disch:=omega)only[↓wr,seval,wq,t1,t2,t6,t7,t8,encI,ak,encS,aaS,a]
    cases P with
    | true =>
     simp(disch:=omega)only[↓wr,seval,wq,t1,t2,t6,t7,t8,encI,ak,encS,aaS,a]
     exact aE hk (by omega) ⟨q,t1,t2,t6,by rw[f];rfl,rfl⟩
    | false =>
     rw[acC] at f
     simp(disch:=omega)only[↓wr,seval,wq,t1,t2,t6,t7,t8,encI,ak,encS,aaS,a]
     apply ao.dec<;>intro c
     .have J:=E2 (I c)
      simp(disch:=omega)only[↓wr,seval,wq,t1,t2,t6,t7,t8,encI,ak,encS,aaS,a,J]
      exact aE hk (by omega) ⟨q,t1,t2,t6,by rw[f,abt c];rfl,rfl⟩
     .simp(disch:=omega)only[↓wr,seval,wq,t1,t2,t6,t7,t8,encI,ak,encS,aaS,a]
      exact aE hk (by omega) ⟨q,t1,t2,t6,by rw[f,decide_eq_false c];rfl,rfl⟩
   .simp(disch:=omega)only[↓wr,seval,wq,t1,t2,t6,t7,t8]
    intro p _
    refine bad p ?_
    rw[Bool.and_eq_false_iff];right
    rw[acS]
    exact⟨x,d,by simp[s]⟩
  .rw[aa6 (by omega)] at b t7
   have j:dp g l=_:=aaT (by simp only[hr,b,Bool.and_self])
   have w:=Pj (aA g) l bo
   rw[w] at j
   cases N:nX (aA g) l with
   | true =>
    rw[N] at t7 j
    simp(disch:=omega)only[↓wr,seval,wq,t1,t2,t6,t7,t8]
    intro p _
    rw[j];exact lz (x:=([],9)) (.emp _)
   | false =>
    rw[N] at t7 j w
    have y:=(ia (aA g) l bo).1 w
    have z:∀x∈l,bm x/\(x<0->-1-x<g.av.length):=λx r=>⟨L x r,λc=>by
     have:=abj.1 b x r
     unfold dP at this
     rw[aaR (by omega)] at this
     simpa using this⟩
    simp(disch:=omega)only[↓wr,seval,wq,t1,t2,t6,t7,t8,ak,encS,encI]
    refine az.pure (VE g D hr).pure ?_
    simp(disch:=omega)only[↓wr,seval,wq,t1,t2,t6,t7,t8,ak,encS,encI]
    have o:=NY l (nz g) A (λm=>by rw[Ec];exact RB g m) (λx r=>⟨(z x r).1,λh=>by simp only[nz,aaU,gS];exact(z x r).2 h⟩)
    have t:∀m,eY (bA (aA g) m):=λm=>j4 g _ m
    have K:=zN t l bo (0,0) ib y (λx _ _=>Ec g _) (S:=nz g) rfl
    have B:=pa t l bo ib
    have C:=Jk y
    rw[K] at o
    generalize Q:(bS (aA g) l bo).1=sp at j o B C
    unfold eY at B
    refine az.pure o.pure ?_
    simp(disch:=omega)only[↓wr,seval,wq,t1,t2,t6,t7,t8,fJ,lP]
    intro n R
    try simp(disch:=omega)only[↓wr,seval,wq,t1,t2,t6,t7,t8,fJ,lP]
    apply ao.dec<;>intro U
    .simp(disch:=omega)only[↓wr,seval,wq,t1,t2,t6,t7,t8]
     rw[aaR (by simp),aaT (.inl (by omega))] at j
     intro p _
     rw[j];exact lz (x:=([],13)) (.emp _)
    .simp(disch:=omega)only[↓wr,seval,wq,t1,t2,t6,t7,t8]
     apply ao.dec<;>intro V
     .simp(disch:=omega)only[↓wr,seval,wq,t1,t2,t6,t7,t8]
      rw[aaR (by simp),aaT (.inr (by omega))] at j
      intro p _
      rw[j];exact lz (x:=([],13)) (.emp _)
     .rw[aaR (by simp),aaR (by omega)] at j
      simp(disch:=omega)only[↓wr,seval,wq,t1,t2,t6,t7,t8,encI,ak,encS]
      have hw:=Tz g D F g.av.length l A z (sL y) (by have:=C (by omega);omega)
      simp only[ak,encI,encS] at hw
      refine az.cG ((hw _).mono ?_)
      rintro v H1 ⟨E,_⟩
      simp(disch:=omega)only[↓wr,seval,wq,t1,t2,t6,t7,t8]
      intro p s
      rw[j];exact lz (x:=(_,0)) (jA (by rw[s];exact E))
 .intro p _
  refine bad p ?_
  simp_all
def cX {κ:Type} (kv:κ->V) (m:cH κ):List (V × V × Nat):=m.map λx=>(kv x.1,x.2.1,x.2.2)
structure En {κ:Type} [BEq κ] (P:Program) (kt:TypeId) (kv:κ->V):Prop where
 find:∀k e m,mU P kt (kv k) e (cX kv m)=some (gC k m)
 same:∀k,sameKey (kv k) (kv k)=true
def lA {κ:Type} (m:cH κ) (c:Nat):Prop:=(m.map (·.2.2)).Nodup/\∀x∈m,x.2.2<c
def lk {κ:Type} [BEq κ] (m:cH κ) (k:κ):Option Nat:=(m.find? λx=>k==x.1).map (·.2.2)
section
variable {κ:Type} [BEq κ] [LawfulBEq κ] {kv:κ->V}
theorem oU (k:κ):∀m:cH κ,match gC k m with
  | some i=>∃x,m[i]?=some x/\x.1=k/\getM m k=some x.2.1/\lk m k=some x.2.2/\(cX kv m)[i]?=some (kv k,x.2.1,x.2.2)/\∀v c,(cX kv m).set i (kv k,v,x.2.2)=cX kv (bO k v c m)/\lk (bO k v c m) k=some x.2.2/\(bO k v c m).map (·.2.2)=m.map (·.2.2)
  | none=>getM m k=none/\lk m k=none/\∀v c,cX kv m++[(kv k,v,c)]=cX kv (bO k v c m)/\lk (bO k v c m) k=some c/\(bO k v c m).map (·.2.2)=m.map (·.2.2)++[c]
 | []=>⟨rfl,rfl,λv c=>⟨rfl,by simp[bO,lk],rfl⟩⟩
 | x::r=>by
  have a:=oU k r
  simp only[gC]
  cases hk:k==x.1 with
  | true =>
   have b:x.1=k:=(eq_of_beq hk).symm
   exact⟨x,rfl,b,by simp[getM,hk],by simp[lk,hk],by simp[cX,b],λv c=>by simp[bO,hk,cX,lk]⟩
  | false =>
   cases hi:gC k r with
   | some i =>
    rw[hi] at a
    obtain⟨y,h1,d,e,f,g,h⟩:=a
    refine⟨y,by simpa using h1,d,by simpa [getM,hk] using e,by simpa [lk,hk] using f,by simpa [cX] using g,λv c=>?_⟩
    obtain⟨g1,g2,g3⟩:=h v c
    exact⟨by simp only[cX] at g1 ⊢;simp[bO,hk,g1],by simpa [bO,hk,lk] using g2,by simp[bO,hk,g3]⟩
   | none =>
    rw[hi] at a
    refine⟨by simpa [getM,hk] using a.1,by simpa [lk,hk] using a.2.1,λv c=>?_⟩
    obtain⟨g1,g2,g3⟩:=a.2.2 v c
    exact⟨by simp only[cX] at g1 ⊢;simp[bO,hk,g1],by simpa [bO,hk,lk] using g2,by simp[bO,hk,g3]⟩
theorem lA.put {m:cH κ} {c:Nat} (h:lA m c) (k:κ) (v:V):lA (bO k v c m) (c+1):=by
 have f:=oU (kv:=λ_=>V.any) k m
 cases i:gC k m with
 | some j =>
  rw[i] at f
  obtain⟨y,_,_,_,_,_,n⟩:=f
  have e:=(n v c).2.2
  refine⟨by rw[e];exact h.1,λx g=>?_⟩
  have:x.2.2∈m.map (·.2.2):=by rw[<-e];exact aba.2 ⟨x,g,rfl⟩
  obtain⟨y,d,o⟩:=aba.1 this
  have:=h.2 y d
  omega
 | none =>
  rw[i] at f
  have e:=(f.2.2 v c).2.2
  refine⟨?_,λx g=>?_⟩
  .rw[e,aco]
   refine⟨h.1,by simp,λa p b l=>?_⟩
   simp at l;subst l
   obtain⟨y,d,rfl⟩:=aba.1 p
   have:=h.2 y d
   omega
  .have:x.2.2∈m.map (·.2.2)++[c]:=by rw[<-e];exact aba.2 ⟨x,g,rfl⟩
   rcases aa7.1 this with h1 | h1
   .obtain⟨y,d,o⟩:=aba.1 h1
    have:=h.2 y d
    omega
   .simp at h1;omega
theorem lA.UM {m:cH κ} {c:Nat} (h:lA m c) {k:κ} {b:Nat} (d:lk m k=some b) (v:V) (f:Nat):lA (bO k v f m) c:=by
 have a:=oU (kv:=λ_=>V.any) k m
 cases g:gC k m with
 | some j =>
  rw[g] at a
  obtain⟨y,_,_,_,_,_,i⟩:=a
  have e:=(i v f).2.2
  refine⟨by rw[e];exact h.1,λx l=>?_⟩
  have:x.2.2∈m.map (·.2.2):=by rw[<-e];exact aba.2 ⟨x,l,rfl⟩
  obtain⟨y,n,o⟩:=aba.1 this
  have:=h.2 y n
  omega
 | none =>
  rw[g] at a
  rw[a.2.1] at d;simp at d
omit [BEq κ] [LawfulBEq κ] in
theorem find_born (b:Nat):∀(m:cH κ) (i:Nat) (x:κ × V × Nat),(m.map (·.2.2)).Nodup->m[i]?=some x->x.2.2=b->(cX kv m).findIdx? (λe=>e.2.2==b)=some i
 | [],i,x,_,h,_=>by simp at h
 | y::m,0,x,a,h,e=>by
  simp at h;subst h
  simp[cX,List.findIdx?_cons,e]
 | y::m,i+1,x,a,h,e=>by
  simp only[abl,abT] at a
  have f:x∈m:=aa1 h
  have c:¬ y.2.2=b:=λg=>a.1 (by rw[g,<-e];exact aba.2 ⟨x,f,rfl⟩)
  have d:=find_born b m i x a.2 h e
  simp only[cX] at d
  simp[cX,List.findIdx?_cons,c,d]
variable {P:Program} {T:Env} {H:View} {kt et t ty:TypeId}
theorem JN {K:V->View->Prop} {w:dd (T,H,K)} {x i:Operand} {z:V} {id c:Nat} {m:cH κ} {k:κ} (hm:eQ P t=some (kt,et)) (d:zeroV P et=some z) (hk:En P kt kv)
  (e:ev T x=.mp id) (hi:ev T i=kv k) (hH:H id=.map (cX kv m) c) (h:K ((getM m k).getD z) H):jQ P (.lookup t x i false) ty T H K w:=by
 intro n _
 have f:=hk.find k (cX kv m).isEmpty m
 have a:=oU (kv:=kv) k m
 refine⟨(getM m k).getD z,.none,[id],?_,h⟩
 simp only[sI,cK,oper,fX,hm,d,e,hi,hH,f]
 cases b:gC k m with
 | some j =>
  rw[b] at a
  obtain⟨y,h1,o,g,p,l,_⟩:=a
  simp[l,g]
 | none =>
  rw[b] at a
  simp[a.1]
theorem I8 {z:V} {id c:Nat} {m:cH κ} {k:κ} (hm:eQ P t=some (kt,et)) (l:zeroV P et=some z) (hk:En P kt kv) (hH:H id=.map (cX kv m) c) (e:lA m c):
  ∃b f,fh P t (.mp id) (kv k) H=some (.bb [(getM m k).getD z,cO b],.fR id (.map (cX kv (bO k ((getM m k).getD z) c m)) f),[id])/\lA (bO k ((getM m k).getD z) c m) f/\lk (bO k ((getM m k).getD z) c m) k=some b:=by
 have d:=hk.find k false m
 have a:=oU (kv:=kv) k m
 cases g:gC k m with
 | some j =>
  rw[g] at a d
  obtain⟨y,h1,p,h,n,o,i⟩:=a
  refine⟨y.2.2,c,?_,?_,?_⟩
  .simp only[fh,hm,hH,d,o,hk.same k,if_true,h,aa8]
   rw[(i y.2.1 c).1]
  .exact e.UM n _ _
  .rw[h];exact(i _ c).2.1
 | none =>
  rw[g] at a d
  refine⟨c,c+1,?_,e.put k _,?_⟩
  .simp only[fh,hm,hH,d,l,a.1,Option.getD_none]
   rw[(a.2.2 z c).1]
  .rw[a.1];exact(a.2.2 _ c).2.1
theorem Rf {K:V->View->Prop} {w:dd (T,H,K)} {x i:Operand} {z:V} {id c:Nat} {m:cH κ} {k:κ} (hm:eQ P t=some (kt,et)) (d:zeroV P et=some z) (hk:En P kt kv)
  (e:ev T x=.mp id) (hi:ev T i=kv k) (hH:H id=.map (cX kv m) c) (f:lA m c)
  (h:∀b a,lA (bO k ((getM m k).getD z) c m) a->lk (bO k ((getM m k).getD z) c m) k=some b->K (.bb [(getM m k).getD z,cO b]) (H.set id (.map (cX kv (bO k ((getM m k).getD z) c m)) a))):jQ P (.mapEntry t x i) ty T H K w:=by
 intro n _
 obtain⟨b,a,h1,g,j⟩:=I8 (k:=k) hm d hk hH f
 refine⟨.bb [(getM m k).getD z,cO b],.fR id (.map (cX kv (bO k ((getM m k).getD z) c m)) a),[id],?_,h b a g j⟩
 simp only[sI,cK,oper,e,hi]
 exact h1
theorem Re {K:V->View->Prop} {w:dd (T,H,K)} {x s y:Operand} {id c b:Nat} {m:cH κ} {k:κ} {v:V} (i:ev T x=.mp id) (l:ev T s=cO b) (o:ev T y=v) (hH:H id=.map (cX kv m) c) (p:lA m c) (a:lk m k=some b)
  (h:∀c0,K .any (H.set id (.map (cX kv (bO k v c0 m)) c))):jQ P (.entryStore t x s y) ty T H K w:=by
 intro n _
 have d:=oU (kv:=kv) k m
 cases g:gC k m with
 | none=>rw[g] at d;rw[d.2.1] at a;simp at a
 | some j =>
  rw[g] at d
  obtain⟨z,h1,B,C,f,q,r⟩:=d
  rw[a] at f
  have e:z.2.2=b:=by simp at f;exact f.symm
  have u:=find_born (kv:=kv) b m j z p.1 h1 e
  refine⟨.any,.fR id (.map (cX kv (bO k v c m)) c),[id],?_,h c⟩
  have A:asNat (cO b)=some b:=by simp[asNat,cO]
  simp only[sI,cK,oper,i,l,o,lO,A,hH,u,q]
  rw[(r v c).1]
theorem Y0 {z:V} {id c:Nat} {m:cH κ} {k:κ} (hm:eQ P t=some (kt,et)) (f:zeroV P et=some z) (hk:En P kt kv) (hH:H id=.map (cX kv m) c) (i:lA m c):Me P t (.mp id) (kv k) H:=by
 refine⟨⟨_,_,hH⟩,λv obj rd he=>?_⟩
 obtain⟨b,l,h1,n,g⟩:=I8 (k:=k) hm f hk hH i
 rw[he] at h1
 obtain⟨_,⟨_,rfl⟩,_⟩:=h1
 have key:∀(a:cH κ) (c2:Nat) (H':View),H' id=.map (cX kv a) c2->fX P t (.mp id) (kv k) false H'=some ((getM a k).getD z,.none,[id]):=by
  intro a c2 H' e
  have o:=hk.find k (cX kv a).isEmpty a
  have d:=oU (kv:=kv) k a
  simp only[fX,hm,f,e,o]
  cases h:gC k a with
  | some j =>
   rw[h] at d
   obtain⟨y,h1,n,g,q,p,_⟩:=d
   simp[p,g]
  | none =>
   rw[h] at d
   simp[d.1]
 rw[key (bO k ((getM m k).getD z) c m) l _ (by simp[View.set]),key m c H hH,lq]
 simp
end
def gg (x:Item):List V:=[cO x.aB,cO x.dot,cO x.eh]
def ub (x:Item):V:=.agg (gg x)
def nt (x:Item):Value:=.agg #[.int .i64 x.aB,.int .i64 x.dot,.int .i64 x.eh]
theorem EB (x:Item):dC (ub x)=some (nt x):=rfl
theorem FN:∀m:cH Item,gI (cX ub m)=some (m.map λx=>{ key:=nt x.1,val:=.nilFunc,born:=x.2.2 })
 | []=>rfl
 | x::r=>by
  have:=FN r
  simp only[cX] at this
  simp[cX,gI,EB,this]
structure Yk (P:Program) (kt:TypeId):Prop where
 ty:∃f0 f1 f2:Field,P.underlying kt=some (.struct #[f0,f1,f2])/\f0.name≠ "_" /\ f1.name≠ "_" /\ f2.name≠ "_" /\ P.underlying f0.type=some (.int .i64)/\P.underlying f1.type=some (.int .i64)/\P.underlying f2.type=some (.int .i64)/\f0.offset=0/\f1.offset=1/\f2.offset=2
 held:P.stoodInHeld kt=false
theorem vQ {P:Program} {α:Type} (x:α):bk P (pure x:Sem α)=some x:=rfl
theorem YN {P:Program} {kt:TypeId} (h:Yk P kt):En P kt ub where
 same:=λk=>by simp[sameKey,EB,nt,Instr.sameBits]
 find:=by
  obtain⟨f0,f1,f2,hu,t,u,w,f,g,l,o0,n,o⟩:=h.ty
  have heq:∀a b:Item,bk P (Op.equal kt (nt a) (nt b))=some (a==b):=by
   intro a b
   have y:ig P 9998 #[.int .i64 (a.aB:Int),.int .i64 (a.dot:Int),.int .i64 (a.eh:Int)] #[.int .i64 (b.aB:Int),.int .i64 (b.dot:Int),.int .i64 (b.eh:Int)] [f0,f1,f2] (((a.aB:Int)==b.aB)&&(((a.dot:Int)==b.dot)&&(((a.eh:Int)==b.eh)&&true))):=
    .int f0 _ _ .i64 _ _ t f (by rw[o0];rfl) (by rw[o0];rfl) (.int f1 _ _ .i64 _ _ u g (by rw[n];rfl) (by rw[n];rfl) (.int f2 _ _ .i64 _ _ w l (by rw[o];rfl) (by rw[o];rfl) .nil))
   rw[nt,nt,vm hu h.held y]
   congr 1
   rw[abD]
   simp only[aaZ,abQ,Int.natCast_inj,and_true]
   cases a;cases b;simp
  have c:∀(k:Item) (m:cH Item) (i:Nat),bk P (Instr.findAsking kt (nt k) (m.map λx=>{ key:=nt x.1,val:=.nilFunc,born:=x.2.2 }) i)=some ((gC k m).map λj=>(i+j,.nilFunc)):=by
   intro k m
   induction m with
   | nil=>intro i;rfl
   | cons x r z =>
    intro i
    simp only[abl,Instr.findAsking,aY,heq,abk,gC]
    cases hk:k==x.1 with
    | true=>simp[vQ]
    | false =>
     simp only[abp,if_false,z (i+1),Option.map_map]
     congr 2
     funext j
     simp only[Function.comp]
     congr 1
     omega
  have hint:∀(e:Bool) (p:TypeId) (v:Value),P.underlying p=some (.int .i64)->bk P (Instr.checkKey e 9999 p v)=some ():=λe p v q=>zb q trivial e 9998 v
  have d:∀(k:Item) (e:Bool),bk P (Instr.checkKey e 10000 kt (nt k))=some ():=by
   intro k e
   unfold Instr.checkKey nt
   rw[aY,dA hu,abk]
   have A:=ew (P:=P) f (.inr ⟨_,rfl⟩) #[.int .i64 (k.aB:Int),.int .i64 (k.dot:Int),.int .i64 (k.eh:Int)] f0.offset (v:=.int .i64 k.aB) (by rw[o0];rfl)
   have B:=ew (P:=P) g (.inr ⟨_,rfl⟩) #[.int .i64 (k.aB:Int),.int .i64 (k.dot:Int),.int .i64 (k.eh:Int)] f1.offset (v:=.int .i64 k.dot) (by rw[n];rfl)
   have C:=ew (P:=P) l (.inr ⟨_,rfl⟩) #[.int .i64 (k.aB:Int),.int .i64 (k.dot:Int),.int .i64 (k.eh:Int)] f2.offset (v:=.int .i64 k.eh) (by rw[o];rfl)
   simp only[<-Array.forIn_toList,List.forIn_cons,List.forIn_nil,aaT t,aaT u,aaT w,aY,A,B,C,hint e _ _ f,hint e _ _ g,hint e _ _ l,abk,vQ]
  intro k e m
  have s:bk P (underlying kt)=some _:=dA hu
  simp only[mU,EB,FN,aY,d,abk]
  have:bk P (Instr.findKey kt (nt k) (m.map λx=>{ key:=nt x.1,val:=.nilFunc,born:=x.2.2 }))=some ((gC k m).map λj=>(0+j,.nilFunc)):=by
   unfold Instr.findKey
   rw[aY,s,abk]
   cases m with
   | nil=>rfl
   | cons x r=>exact c k (x::r) 0
  rw[this]
  cases gC k m with
  | none=>rfl
  | some j=>simp
def Tf (m:cH Item) (s:List Item) (B:Nat):Prop:=∀x,(x∈s->∃k:Nat,getM m x=some (cO k)/\1<=k/\k<=B)/\(x ∉ s->getM m x=none)
structure nY (H:View) (c sid mid:Nat) (sv:Nat->V) (mi:Nat->Nat) (mm:Nat->cH Item) (cl:Nat->Nat) (g:aj) (p:List Int) (nu:V) (S S1:Nat->List Item) (B n:Nat) (K:List (Nat × cr)):Prop where
 box:H c=.arr 8 [[.aZ (g.ax.map dg),encS g.av,.aZ (g.rules.map aQ),gi g.start,encI p,nu,.sl sid 0 n 1,.sl mid 0 n 1]]
 jw:H sid=.arr 1 ((List.range n).map λj=>[sv j])
 seen:H mid=.arr 1 ((List.range n).map λj=>[.mp (mi j)])
 set:∀j,j<n->aP H (sv j) 3 ((S j).map gg)
 map:∀j,j<n->H (mi j)=.map (cX ub (mm j)) (cl j)/\lA (mm j) (cl j)/\Tf (mm j) (S1 j) B
 ne:sid≠mid
 BN:∀i j o,i<n->j<n->owner (sv i)=some o->owner (sv j)=some o->i=j
 Hl:∀i j,i<n->j<n->mi i=mi j->i=j
 off:∀q∈K,H q.1=q.2/\q.2≠.dead/\q.1≠sid/\(∀j,j<n->q.1≠mi j)/\∀j,j<n->owner (sv j)≠some q.1
def Ch (H:View) (c:Nat) (g:aj) (p:List Int) (nu:V) (S:Nat->List Item) (B n:Nat) (K:List (Nat × cr)):Prop:=∃sid mid sv mi mm cl,nY H c sid mid sv mi mm cl g p nu S S B n K
def kJ (S:Nat->List Item) (a:Nat) (x:Item):Nat->List Item:=λb=>if b=a then (if x∈S a then S a else S a++[x]) else S b
theorem Ch.more {H:View} {c:Nat} {g:aj} {p:List Int} {e:V} {S:Nat->List Item} {B B' n:Nat} {K:List (Nat × cr)} (h:Ch H c g p e S B n K) (o:B<=B'):Ch H c g p e S B' n K:=by
 obtain⟨b,d,f,i,mm,cl,h⟩:=h
 refine⟨b,d,f,i,mm,cl,h.box,h.jw,h.seen,h.set,λj a=>⟨(h.map j a).1,(h.map j a).2.1,λx=>⟨λl=>?_,((h.map j a).2.2 x).2⟩⟩,h.ne,h.BN,h.Hl,h.off⟩
 obtain⟨k,h1,m,q⟩:=((h.map j a).2.2 x).1 l
 exact⟨k,h1,m,by omega⟩
theorem Ch.drop {H:View} {c:Nat} {g:aj} {p:List Int} {d:V} {S:Nat->List Item} {B n:Nat} {q:Nat × cr} {K:List (Nat × cr)} (h:Ch H c g p d S B n (q::K)):Ch H c g p d S B n K:=by
 obtain⟨a,b,e,f,mm,cl,h⟩:=h
 exact⟨a,b,e,f,mm,cl,h.box,h.jw,h.seen,h.set,h.map,h.ne,h.BN,h.Hl,λq i=>h.off q (by simp[i])⟩
theorem nY.new {H:View} {c f i:Nat} {m:Nat->V} {r:Nat->Nat} {mm:Nat->cH Item} {cl:Nat->Nat} {g:aj} {p:List Int} {s:V} {S t:Nat->List Item} {B n:Nat} {K:List (Nat × cr)} (h:nY H c f i m r mm cl g p s S t B n K)
  {b:Nat} {o:cr} (k:H b=.dead) (v:o≠.dead):nY (H.set b o) c f i m r mm cl g p s S t B n ((b,o)::K):=by
 have keep:∀id,H id≠.dead->(H.set b o) id=H id:=λid d=>by
  have e:id≠b:=by rintro rfl;exact d k
  simp[View.set,e]
 have live:∀ {id},H id≠.dead->b≠id:=λd e=>d (e▸k)
 refine⟨?_,?_,?_,λj a=>?_,λj a=>?_,h.ne,h.BN,h.Hl,λq l=>?_⟩
 .rw[keep _ (by rw[h.box];simp)];exact h.box
 .rw[keep _ (by rw[h.jw];simp)];exact h.jw
 .rw[keep _ (by rw[h.seen];simp)];exact h.seen
 .exact(h.set j a).fresh k
 .rw[keep _ (by rw[(h.map j a).1];simp)];exact h.map j a
 .rcases abd.1 l with rfl | l
  .refine⟨by simp[View.set],v,live (by rw[h.jw];simp),λj a=>live (by rw[(h.map j a).1];simp),λj a=>?_⟩
   have:=(h.set j a).ne k
   exact this
  .obtain⟨h1,u,w⟩:=h.off q l
   exact⟨by rw[keep _ (by rw[h1];exact u)];exact h1,u,w⟩
theorem Ch.new {H:View} {c:Nat} {g:aj} {p:List Int} {e:V} {S:Nat->List Item} {B n b:Nat} {o:cr} {K:List (Nat × cr)} (h:Ch H c g p e S B n K) (f:H b=.dead) (i:o≠.dead):Ch (H.set b o) c g p e S B n ((b,o)::K):=by
 obtain⟨a,d,j,k,mm,cl,h⟩:=h
 exact⟨a,d,j,k,mm,cl,h.new f i⟩
theorem Ch.kept {H:View} {c:Nat} {g:aj} {p:List Int} {a:V} {S:Nat->List Item} {B n:Nat} {K:List (Nat × cr)} (h:Ch H c g p a S B n K):∀q∈K,H q.1=q.2:=by
 obtain⟨b,d,f,i,mm,cl,h⟩:=h
 exact λq e=>(h.off q e).1
def tz:SF:=⟨ai [ag [cm 5 2],.yM (188,12,13) [] [⟨none,[af 6 0,fT 7 6,aw 8 7 7,au 9 8,af 10 1,aL 11 1 9 10,au 12 11,aU 13 3 5,((some 14),.op (.old (.lookup 188 (.tmp 12) (.tmp 13) false) 3)),aH 15 .add 14 1,((some 16),.op (.old (.mapEntry 188 (.tmp 12) (.tmp 13)) 0)),c7 17 1 16,(none,.op (.old (.entryStore 188 (.tmp 12) (.tmp 17) (.tmp 15)) 0))]⟩],ag [af 18 0,fT 19 18,aw 20 7 19,au 21 20,af 22 1,aL 23 1 21 22,au 24 23,aU 25 3 5,((some 26),.op (.old (.lookup 188 (.tmp 24) (.tmp 25) false) 3)),aH 27 .eql 26 1],aX 27 (.sn [(30,39)] [⟨none,[af 28 0,fT 29 28,aw 30 6 29,au 31 30,af 32 1,af 33 0,fT 34 33,aw 35 6 34,au 36 35,af 37 1,aL 38 1 36 37,au 39 38,aU 40 3 5,((some 41),.op (.bN 1 3 [(.val (.int .i64 0)),(.val (.int .i64 0)),(.val (.int .i64 0))] [(0,(.tmp 40))])),fL 42 3 24 39 41,aL 43 1 31 32,cz 1 43 42]⟩])],
 [],44⟩
theorem yy:aJ aa 176 [5,100000]=some tz:=by kernel_rfl
theorem U3:Yk aa 191:=
 ⟨⟨⟨ "rule",3,0,false,"","gerund/oracle",0⟩,⟨ "dot",3,1,false,"","gerund/oracle",8⟩,⟨ "from",3,2,false,"","gerund/oracle",16⟩,by kernel_rfl,by decide,by decide,by decide,Tryz.underlying3,Tryz.underlying3,Tryz.underlying3,rfl,rfl,rfl⟩,by kernel_rfl⟩
theorem Xa {m:cH Item} {s:List Item} {B c c0:Nat} {x:Item} (h:Tf m s B) (k:Nat) (hk:(x∈s/\getM m x=some (cO k))∨(x ∉ s/\k=0)) (i:k<=B) (z:V):Tf (bO x (cO (k+1:Nat)) c0 (bO x z c m)) (if x∈s then s else s++[x]) (B+1):=by
 intro y
 rw[lq,lq]
 by_cases e:y=x
 .subst e
  refine⟨λ_=>⟨k+1,by simp,by omega,by omega⟩,λd=>?_⟩
  exfalso
  by_cases a:y∈s
  .rw[aaT a] at d;exact d a
  .rw[aaR a] at d;exact d (by simp)
 .have e':(y==x)=false:=by simpa using e
  simp only[e',abp,if_false]
  have b:(y∈if x∈s then s else s++[x])↔y∈s:=by
   split
   .exact Iff.rfl
   .simp[e]
  rw[b]
  refine⟨λa=>?_,(h y).2⟩
  obtain⟨f,h1,g,j⟩:=(h y).1 a
  exact⟨f,h1,g,by omega⟩
theorem nY.wrote {H:View} {c f i:Nat} {v:Nat->V} {d:Nat->Nat} {mm:Nat->cH Item} {cl:Nat->Nat} {g:aj} {p:List Int} {w:V} {S r:Nat->List Item} {B n:Nat} {K:List (Nat × cr)} (h:nY H c f i v d mm cl g p w S r B n K)
  {a:Nat} (s:a<n) {x:Item} {l:cH Item} {o:Nat} (D:lA l o) (E:Tf l (kJ r a x a) (B+1)):
  nY (H.set (d a) (.map (cX ub l) o)) c f i v d (λj=>if j=a then l else mm j) (λj=>if j=a then o else cl j) g p w S (kJ r a x) (B+1) n K:=by
 obtain⟨t,F,G⟩:=h.map a s
 have keep:∀id z es,H id=.arr z es->(H.set (d a) (.map (cX ub l) o)) id=H id:=λid z es b=>by
  have e:id≠d a:=by rintro rfl;rw[t] at b;simp at b
  simp[View.set,e]
 refine⟨?_,?_,?_,λj m=>?_,λj m=>?_,h.ne,h.BN,h.Hl,λq I=>?_⟩
 .rw[keep _ _ _ h.box];exact h.box
 .rw[keep _ _ _ h.jw];exact h.jw
 .rw[keep _ _ _ h.seen];exact h.seen
 .exact(h.set j m).keep λid b=>keep _ _ _ ((h.set j m).live b).1
 .by_cases e:j=a
  .subst e
   simp only[if_true]
   exact⟨by simp[View.set],D,E⟩
  .have J:d j≠d a:=λq=>e (h.Hl j a m s q)
   simp only[aaR e]
   obtain⟨g1,g2,g3⟩:=h.map j m
   refine⟨by simp[View.set,J,g1],g2,?_⟩
   simp only[kJ,aaR e]
   intro y
   refine⟨λL=>?_,(g3 y).2⟩
   obtain⟨k,h1,u,A⟩:=(g3 y).1 L
   exact⟨k,h1,u,by omega⟩
 .obtain⟨h1,u,A,C,M⟩:=h.off q I
  exact⟨by simp[View.set,C a s,h1],u,A,C,M⟩
theorem nY.YB {H H':View} {c d s:Nat} {m:Nat->V} {z:Nat->Nat} {mm:Nat->cH Item} {cl:Nat->Nat} {g:aj} {p:List Int} {D:V} {S E:Nat->List Item} {B n:Nat} {K:List (Nat × cr)} (h:nY H c d s m z mm cl g p D S E B n K)
  {a:Nat} (v:a<n) {x:Item} (F:¬ x∈S a) {u':V} (G:aP H' u' 3 ((S a).map gg++[gg x])) (I:Left H H' (m a) u'):
  nY (H'.set d (.arr 1 (((List.range n).map λj=>[m j]).set a [u']))) c d s (λj=>if j=a then u' else m j) z mm cl g p D (kJ S a x) E B n K:=by
 have own:∀ {id},owner (m a)=some id->H id=.arr 3 ((S a).map gg):=λr=>((h.set a v).live r).1
 have J:owner (m a)≠some d:=λe=>by
  have:=own e
  rw[h.jw] at this;simp at this
 have keep:∀id,H id≠.dead->owner (m a)≠some id->H' id=H id/\owner u'≠some id:=I
 have L:=keep d (by rw[h.jw];simp) J
 have b:∀id,H id≠.dead->owner (m a)≠some id->id≠d->(H'.set d (.arr 1 (((List.range n).map λj=>[m j]).set a [u']))) id=H id:=λid h1 f w=>by
  simp only[View.set,aaR w];exact(keep id h1 f).1
 have t:∀ {id o},H id=o->o≠.arr 3 ((S a).map gg)->owner (m a)≠some id:=λh1 f e=>f (by rw[<-h1];exact own e)
 refine⟨?_,?_,?_,λj l=>?_,λj l=>?_,h.ne,λi j o hi l h1 f=>?_,h.Hl,λq M=>?_⟩
 .rw[b c (by rw[h.box];simp) (t h.box (by simp)) (by rintro rfl;have:=h.box;rw[h.jw] at this;simp at this)];exact h.box
 .simp only[View.set,if_true]
  congr 1
  rw[He]
  apply abR
  intro j _
  split<;>rfl
 .rw[b s (by rw[h.seen];simp) (t h.seen (by simp)) h.ne.symm];exact h.seen
 .by_cases e:j=a
  .subst e
   simp only[if_true,kJ,aaR F,abh,abl,acq]
   exact G.other L.2
  .simp only[aaR e,kJ]
   refine(h.set j l).keep λid r=>?_
   have k:=((h.set j l).live r).1
   refine b id (by rw[k];simp) (λu=>e (h.BN j a id l v r u)) ?_
   rintro rfl;rw[h.jw] at k;simp at k
 .obtain⟨g1,g2,g3⟩:=h.map j l
  refine⟨?_,g2,g3⟩
  rw[b (z j) (by rw[g1];simp) (t g1 (by simp)) (by intro e;rw[e,h.jw] at g1;simp at g1)];exact g1
 .by_cases y:i=a
  .by_cases u:j=a
   .omega
   .simp only[aaT y,aaR u] at h1 f
    exfalso
    have k:=((h.set j l).live f).1
    exact(keep o (by rw[k];simp) (λA=>u (h.BN j a o l v f A))).2 h1
  .by_cases u:j=a
   .simp only[aaR y,aaT u] at h1 f
    exfalso
    have k:=((h.set i hi).live h1).1
    exact(keep o (by rw[k];simp) (λA=>y (h.BN i a o hi v h1 A))).2 f
   .simp only[aaR y,aaR u] at h1 f
    exact h.BN i j o hi l h1 f
 .obtain⟨h1,f,w,N,C⟩:=h.off q M
  refine⟨?_,f,w,N,λj l=>?_⟩
  .rw[b q.1 (by rw[h1];exact f) (C a v) w];exact h1
  .by_cases e:j=a
   .simp only[aaT e];exact(keep q.1 (by rw[h1];exact f) (C a v)).2
   .simp only[aaR e];exact C j l
theorem EP (c:Nat) (g:aj) (p:List Int) (Y:V) (S:Nat->List Item) (B n a:Nat) (x:Item) (K:List (Nat × cr)) (H:View) (hC:Ch H c g p Y S B n K) (j:a<n) (hn:n<1000) (hB:B<1000000000000) (hl:(S a).length<1000000)
  (hx:x.aB<1000/\x.dot<1000/\x.eh<1000):ay aa 176 [.ptr c 0 0,cO a,.agg (gg x)] H λ_ H'=>Ch H' c g p Y (kJ S a x) (B+1) n K:=by
 obtain⟨C,ab,Z,A,mm,cl,h⟩:=hC
 obtain⟨r,D,t⟩:=h.map a j
 have s:eQ aa 188=some (191,3):=by kernel_rfl
 have L:zeroV aa 3=some (gi 0):=by kernel_rfl
 have i:=YN U3
 have M:∃k:Nat,(getM (mm a) x).getD (gi 0)=cO k/\k<=B/\((x∈S a/\getM (mm a) x=some (cO k)/\1<=k)∨(¬ x∈S a/\k=0)):=by
  by_cases d:x∈S a
  .obtain⟨k,h1,l,f⟩:=(t x).1 d
   exact⟨k,by rw[h1];rfl,f,.inl ⟨d,h1,l⟩⟩
  .exact⟨0,by rw[(t x).2 d];rfl,by omega,.inr ⟨d,rfl⟩⟩
 obtain⟨k,E,N,u⟩:=M
 refine ay.of mixed yy ?_
 simp(disch:=omega)only[↓wr,seval,wq,tz,h.box,h.seen,gJ j,gg]
 refine⟨j,by simp;omega,?_⟩
 refine JN (kv:=ub) (kt:=191) (et:=3) (z:=gi 0) s L i (id:=A a) (c:=cl a) (m:=mm a) (k:=x) (by simp(disch:=omega)only[↓wr,seval,wq]) (by simp(disch:=omega)only[↓wr,seval,wq];rfl) r ?_
 rw[E]
 simp(disch:=omega)only[↓wr,seval,wq]
 refine Rf (kv:=ub) (kt:=191) (et:=3) (z:=gi 0) s L i (id:=A a) (c:=cl a) (m:=mm a) (k:=x) (by simp(disch:=omega)only[↓wr,seval,wq]) (by simp(disch:=omega)only[↓wr,seval,wq];rfl) r D λb O P w=>?_
 rw[E] at P w ⊢
 simp(disch:=omega)only[↓wr,seval,wq]
 have ek:V.val (.int .i64 ((k:Int)+1))=cO (k+1:Nat):=by simp[cO]
 refine Re (kv:=ub) (id:=A a) (c:=O) (b:=b) (m:=bO x (cO k) (cl a) (mm a)) (k:=x) (v:=cO (k+1:Nat)) (by simp(disch:=omega)only[↓wr,seval,wq]) (by simp(disch:=omega)only[↓wr,seval,wq]) (by simp(disch:=omega)only[↓wr,seval,wq];exact ek) (by simp[View.set,cO]) P w λc0=>?_
 simp(disch:=omega)only[↓wr,seval,wq]
 refine⟨Y0 (kv:=ub) s L i r D,?_⟩
 rw[set_set]
 have F:Tf (bO x (cO (k+1:Nat)) c0 (bO x (cO k) (cl a) (mm a))) (kJ S a x a) (B+1):=by
  simp only[kJ,if_true]
  exact Xa t k (u.elim (λh=>.inl ⟨h.1,h.2.1⟩) .inr) N _
 have l:=h.wrote j (P.UM w (cO (k+1:Nat)) c0) F
 have q:getM (bO x (cO (k+1:Nat)) c0 (bO x (cO k) (cl a) (mm a))) x=some (cO (k+1:Nat)):=by rw[lq];simp
 simp only[cO] at l q ⊢
 generalize bO x (.val (.int .i64 ((k+1:Nat):Int))) c0 (bO x (.val (.int .i64 (k:Int))) (cl a) (mm a))=m2 at l q ⊢
 generalize View.set H (A a) (.map (cX ub m2) O)=H2 at l ⊢
 have Q:c≠A a:=λe=>by
  have:=h.box
  rw[e,r] at this;simp at this
 simp only[aaR Q,h.box]
 simp(disch:=omega)only[↓wr,seval,wq,l.box,l.seen,gJ j]
 refine⟨j,by simp;omega,?_⟩
 have G:=(l.map a j).1
 simp only[if_true] at G
 refine JN (kv:=ub) (kt:=191) (et:=3) (z:=gi 0) s L i (id:=A a) (c:=O) (m:=m2) (k:=x) (by simp(disch:=omega)only[↓wr,seval,wq]) (by simp(disch:=omega)only[↓wr,seval,wq];rfl) G ?_
 rw[q]
 simp(disch:=omega)only[↓wr,seval,wq,aa8]
 apply ao.eq<;>intro e
 .have d:¬ x∈S a:=by
   rcases u with f | f
   .omega
   .exact f.1
  simp(disch:=omega)only[↓wr,seval,wq,l.box,l.jw,gJ j]
  refine⟨j,by simp;omega,λb1 R=>?_⟩
  rw[bG]
  have f:=l.new R (o:=.arr 3 [gg x]) (by simp)
  simp only[gg,cO] at f
  have T:=f.off _ (abX ..)
  generalize View.set H2 b1 _=H3 at f T ⊢
  have U:=f.set a j
  have W:iT (.ptr c 0 6) (Z a):=by
   rcases U with ⟨_,k,e⟩ | ⟨m,e,hm⟩
   .rw[e];trivial
   .rw[e]
    show c≠m
    rintro rfl
    have:=f.box
    rw[hm] at this;simp at this
  simp(disch:=omega)only[↓wr,seval,wq]
  refine jU U (by simp) (by simp[V.cells,aK]) (by simp[aF];omega) (by simp[aF];omega) λu' H' y I=>?_
  have X:owner (Z a)≠some C:=λe=>by
   have:=(U.live e).1
   rw[f.jw] at this;simp at this
  have J:=(I C (by rw[f.jw];simp) X).1
  rw[f.jw] at J
  simp(disch:=omega)only[↓wr,seval,wq,J,y.cells,y.ey,gJ j]
  refine⟨j,by simp;omega,W,?_⟩
  have h4:=f.YB j d (u':=u') y I
  exact Ch.drop ⟨_,_,_,_,_,_,h4⟩
 .have d:x∈S a:=by
   rcases u with f | f
   .exact f.1
   .omega
  simp(disch:=omega)only[↓wr,seval,wq]
  have hS:kJ S a x=S:=by
   funext b
   simp only[kJ,aaT d]
   split
   .rename_i e;rw[e]
   .rfl
  rw[hS] at l ⊢
  exact⟨_,_,_,_,_,_,l⟩
inductive OL (g:aj) (p:List Int):Int->Nat->Prop
 | start:OL g p g.start 0
 | step (R:bc) (l1 l2:List Int) (n:Int) (f a:Nat):R∈g.rules->R.right=l1++(-1-n)::l2->OL g p R.left f->Sp g p l1 f a->OL g p n a
def Ql (g:aj) (p:List Int) (x:Item):Prop:=∃R,g.rules[x.aB]?=some R/\OL g p R.left x.eh
theorem take_at {l:List Int} {d:Nat} {s:Int} (h:l[d]?=some s):l=l.take d++s::l.drop (d+1):=by
 have h1:=(aaX.1 h)
 obtain⟨a,he⟩:=h1
 rw[<-he]
 simp
theorem Ql.ask {g:aj} {p:List Int} {a:Nat} {x:Item} (h:Ql g p x) (d:Sound g p a x) {R:bc} (c:g.rules[x.aB]?=some R) {s:Int} (e:R.right[x.dot]?=some s):OL g p (-1-s) a:=by
 obtain⟨j,h1,f⟩:=h
 obtain⟨k,b,_,_,i⟩:=d
 rw[c] at h1 b;simp at h1 b;subst h1;subst b
 refine .step R (R.right.take x.dot) (R.right.drop (x.dot+1)) (-1-s) x.eh a (aa1 c) ?_ f i
 rw[show -1-(-1-s)=s by omega]
 exact take_at e
end Gv

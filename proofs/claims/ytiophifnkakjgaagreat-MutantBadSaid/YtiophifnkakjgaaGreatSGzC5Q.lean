/-
  Part 17 of the proof: what the machine does and what the functions answer.
  Conditions: those that each lemma names.
-/
import Derived.Test.YtiophifnkakjgaaGreatSGzC5P
set_option linter.unusedSimpArgs false
set_option linter.unusedVariables false
set_option maxRecDepth 100000
set_option maxHeartbeats 20000000
namespace Gv
noncomputable section
open Go Go.Proofs
theorem ay.still {P:Program} {f:FuncId} {vs:List V} {H:View} {K:V->View->Prop} {w:c9 (H,K)} {a:V->View->Prop} (b:az P f vs H a) (c:∀r H',a r H'->∀id,H id≠.dead->H' id=H id) (hk:∀r H',a r H'->K r H'):ay P true f vs H K w:=by
 unfold ay
 simp only[if_true]
 exact(b.mono λr H' h=>⟨c r H' h,hk r H' h⟩).Pz
theorem bw.join {H:View} {L M:List ew} (h:bw H L) (k:bw H M) (g:∀x∈L,∀y∈M,∀id,owner x.1=some id->owner y.1≠some id):bw H (L++M):=by
 refine⟨λx c=>?_,?_⟩
 .rcases aa0.1 c with c | c
  .exact h.1 x c
  .exact k.1 x c
 .rw[List.filterMap_append,ab2]
  refine⟨h.2,k.2,λa i b j e=>?_⟩
  obtain⟨x,c,d⟩:=ab6.1 i
  obtain⟨y,l,f⟩:=ab6.1 j
  subst e
  exact g x c y l a d f
theorem bw.sub {H:View} {L M:List ew} (h:bw H L) (a:M.Sublist L):bw H M:=
 ⟨λx b=>h.1 x (a.subset b),h.2.sublist (a.filterMap _)⟩
theorem Uk {l:List aN} (g:cJ l) (i:l.length<=100000) (u:V) (H:View) (b:aQ H u 2 (bf l)):az aa 124 [u] H λr H'=>H=H'/\aQ H r 2 (bf l)/\(l≠[]->r=u):=by
 refine(OG l i u H b).mono ?_
 rintro r H' ⟨j,k2,a⟩
 rw[P7 g] at k2
 have e:H'=H:=by
  funext id
  by_cases h:owner u=some id
  .rw[(b.live h).1,(k2.live (by rw[a];exact h)).1]
  .exact j id h
 subst e
 refine⟨rfl,k2,λc=>?_⟩
 have hp:0<(bf l).length:=by rw[bR];exact acO.2 c
 obtain⟨n,d,_⟩:=b.sl hp
 obtain⟨m,f,_⟩:=k2.sl hp
 rw[d,f] at a
 simp only[owner,aaK] at a
 rw[d,f,a]
def tY (g:aj) (out:List ba) (M:cH (List UInt8)):Prop:=∀l:List aN,(∀x∈l,cT g x)->getM M (gT l)=if findD out l<0 then none else some (gi (findD out l))
theorem HK:∀ {a b:List ba},a.map ba.bz=b.map ba.bz->∀k,findD a k=findD b k
 | [],[],_,_=>rfl
 | [],_::_,h,_=>by simp at h
 | _::_,[],h,_=>by simp at h
 | s::a,t::b,h,k=>by
  simp only[aba,List.cons.injEq] at h
  rw[findD,findD,h.1,HK h.2 k]
theorem FQ:∀(a:List ba) (s:ba) (k:List aN),findD (a++[s]) k=if 0<=findD a k then findD a k else if s.bz=k then (a.length:Int) else -1
 | [],s,k=>by by_cases e:s.bz=k<;>simp[findD,e]
 | t::a,s,k=>by
  have b:=FQ a s k
  have h1:=vg a k
  rw[abl,findD,findD,b]
  simp only[aaS]
  push_cast
  by_cases e:t.bz=k<;>by_cases c:s.bz=k<;>by_cases d:0<=findD a k<;>simp only[e,c,d,if_true,if_false]<;>(repeat' split)<;>omega
theorem tY.same {g:aj} {a b:List ba} {M:cH (List UInt8)} (h:tY g a M) (e:a.map ba.bz=b.map ba.bz):tY g b M:=λl c=>by
 rw[h l c,HK e]
theorem tY.put {g:aj} (d:g.c5) {out:List ba} {M:cH (List UInt8)} (h:tY g out M) {k:List aN} (hk:∀x∈k,cT g x) (i:findD out k<0) (c:Nat):tY g (out++[⟨k,[]⟩]) (bN (gT k) (gi out.length) c M):=λl a=>by
 have h1:=FQ out ⟨k,[]⟩ l
 have j:=vg out l
 rw[lx]
 by_cases e:l=k
 .subst e
  rw[aaI (by omega),aaL rfl] at h1
  rw[h1,beq_self_eq_true,aaL rfl,aaI (by omega)]
 .have f:(gT l==gT k)=false:=beq_eq_false_iff_ne.2 λh=>e (Lk d a hk h)
  rw[f,h l a]
  simp only[aa9,if_false]
  by_cases b:0<=findD out l
  .rw[aaL b] at h1
   rw[h1]
  .rw[aaI b,aaI (λh=>e h.symm)] at h1
   rw[h1,aaL (by omega),aaL (by omega)]
theorem Kv {A:cH Int} {k:Nat} {v:V} (d:(A.map (·.1)).Nodup) (h:getM A (k:Int)=some v):∃b,(A.filter (λx=>decide (((k:Nat):Int)<=x.1))).Perm (((k:Int),v,b)::A.filter (λx=>decide (((k+1:Nat):Int)<=x.1))):=by
 obtain⟨g,f,b,rfl,a,_⟩:=zS h
 rw[aa8,aba,ab2] at d
 have c:(k:Int) ∉ f.map (·.1):=(abC.1 d.2.1).1
 have e:∀B:cH Int,(k:Int) ∉ B.map (·.1)->B.filter (λx=>decide (((k:Nat):Int)<=x.1))=B.filter (λx=>decide (((k+1:Nat):Int)<=x.1)):=λB i=>List.filter_congr λx j=>by
  have:x.1≠(k:Int):=λe=>i (aa4.2 ⟨x,j,e⟩)
  rw[decide_eq_decide];omega
 refine⟨b,?_⟩
 rw[acI,acI,List.filter_cons,List.filter_cons,aaL (by simp),aaI (by simp only[aaX];push_cast;omega),e g a,e f c]
 exact acR
theorem Y3 {α:Type} {e u r:α} {S X Y:List α} (h:X.Perm (r::Y)):(e::u::(S++X)).Perm (u::((S++[r,e])++Y)):=by
 refine(List.Perm.swap _ _ _).trans (.cons _ ?_)
 rw[abM]
 refine((h.append_left S).cons e).trans ?_
 exact acR.symm.trans ((List.Perm.swap _ _ _).append_left S)
theorem JD {α:Type} {u k e:α} {S R:List α} : (u::(S++k::e::R)).Perm (e::u::(S++k::R)):=by
 have h:(S++k::e::R).Perm (e::(S++k::R)):=by
  have:=acR (a:=e) (l₁:=S++[k]) (l₂:=R)
  simpa using this
 exact(h.cons u).trans (List.Perm.swap _ _ _)
def yF:SC:=
 ai [ag [aS 49 .lss 48 47],bQ 49 (.exit 2),.block 3 (ai [ag [af 50 48,af 9 50],ag [af 51 8,af 52 9,((some 53),.op (.old (.lookup 209 (.tmp 51) (.tmp 52) false) 103)),aV 54 124 [53],af 10 54],ai [ag [af 55 10,aM 56 55,aH 57 .eql 56 0],aX 57 (.exit 3)],ag [af 58 9,af 11 58],ai [ag [af 59 9,aw 60 0 1,au 61 60,aM 62 61,aS 63 .geq 59 62],aX 63 (ag [aw 64 0 1,au 65 64,aM 66 65,aH 67 .sub 66 1,af 68 9,aS 69 .sub 67 68,af 11 69])],ag [af 71 6,af 72 10,aV 73 121 [72],((some 74),.op (.old (.lookup 208 (.tmp 71) (.tmp 73) true) 66)),af 70 74,du 75 0 70,du 76 1 70,af 12 75,af 13 76],ai [ag [af 77 13,cX 78 77],aX 78 (ai [ag [af 79 5,aM 80 79,af 12 80],ag [af 81 6,af 82 10,aV 83 121 [82],af 84 12,(none,.op (.old (.mapUpdate 208 (.tmp 81) (.tmp 83) (.tmp 84)) 0))],ag [af 85 5,af 86 10,((some 87),.op (.build [(.emp 1),(.emp 1)] [(0,1,(.tmp 86))])),((some 88),.op (.bO 1 2 [(.emp 1),(.emp 1)] [(0,(.tmp 87))])),fP 89 2 48 85 88,af 5 89]])],ag [af 90 5,af 91 7,af 92 5,af 93 7,aK 94 2 92 93,aw 95 1 94,au 96 95,af 97 11,af 98 12,((some 99),.op (.build [(.val (.int .i64 0)),(.val (.int .i64 0))] [(0,1,(.tmp 97)),(1,1,(.tmp 98))])),((some 100),.op (.bO 1 2 [(.val (.int .i64 0)),(.val (.int .i64 0))] [(0,(.tmp 99))])),fP 101 2 16 96 100,aK 102 2 90 91,aw 103 1 102,cz 1 103 101]]),ag [aH 104 .add 48 1,af 48 104]]
def x9:SC:=
 ai [ai [ag [af 26 7,af 27 5,aM 28 27,aS 29 .lss 26 28],bQ 29 (.exit 0)],.block 1 (ai [.region true [⟨none,[aU 32 4 1,aU 33 4 1,af 34 5,af 35 7,aK 36 2 34 35,aw 37 0 36,au 38 37,aV 39 123 [33,38],aV 40 122 [32,39],af 8 40]⟩],ai [ag [aw 41 0 1,au 42 41,aM 43 42,aw 44 1 1,au 45 44,aM 46 45,aS 47 .add 43 46,aT 48 0],bS 2 yF],ag [af 105 5,aM 106 105,aH 107 .gtr 106 300],aX 107 (ai [ag [bU 2 1,aT 3 5],.ret])]),ag [af 30 7,aH 31 .add 30 1,af 7 31]]
def Ci:SF:=⟨ai [ag [cg 1 0,bU 2 1,aT 3 0],ai [ag [aU 14 4 1,aV 15 82 [14],cX 16 15],aX 16 (ai [ag [bU 2 1,aT 3 1],.ret])],ag [((some 17),.op (.build [(.val (.int .i64 0)),(.val (.int .i64 0))] [(0,1,(.val (.val (.int .i64 (-1)))))])),((some 18),.op (.bO 1 2 [(.val (.int .i64 0)),(.val (.int .i64 0))] [(0,(.tmp 17))])),af 4 18],ag [af 19 4,((some 20),.op (.build [(.emp 1),(.emp 1)] [(0,1,(.tmp 19))])),((some 21),.op (.bO 1 2 [(.emp 1),(.emp 1)] [(0,(.tmp 20))])),af 5 21],ag [((some 22),.op (.qW)),af 23 4,aV 24 121 [23],(none,.op (.old (.insert 208 (.tmp 22) (.tmp 24) (.const (.int .i64 0))) 0)),af 25 22,af 6 25],ai [ag [aT 7 0],bS 0 x9],ag [af 108 5,af 2 108,aT 3 0],.ret],
 [.tmp 2,.tmp 3],109⟩
theorem Ew:aJ aa 60 [1]=some Ci:=by kernel_rfl
def AbI (g:aj) (m:Nat) (T:Env) (H:View):Prop:=∃(at_:Nat) (u:V) (S:List rj) (out:List ba) (q c:Nat) (M:cH (List UInt8)),m+at_=302/\out=S.map (λx=>x.2.2)/\bw H ((u,2,fI S)::nG S)/\eo g at_ 0 out/\1<=out.length/\out.length<=300/\fR g m at_ out=cD g/\at_<=out.length /\
 H q=.map (cO iY M) c/\tY g out M/\T 1=.aP (ak g) 0/\T 5=u/\T 6=.mp q/\T 7=gi at_
theorem Rf (g:aj) (hg:g.Ok) (e7:g.Small):cd aa 60 [.agg (ak g)] (.bb [cm (cD g).1,gi (cD g).2]):=by
 refine cd.of (dR g) ?_
 have c4:=Tp g hg e7
 refine az.of mixed Ew ?_
 simp only[ak,encS] at c4
 simp(disch:=omega)only[↓wr,seval,wq,Ci,ak,encS]
 refine ay.pure c4 ?_
 simp(disch:=omega)only[↓wr,seval,wq]
 apply ao.split<;>intro hr
 rotate_left
 .simp(disch:=omega)only[↓wr,seval,wq]
  intro h' _
  have e:cD g=([],1):=by unfold cD;rw[aaI (by rw[hr];simp)]
  rw[e]
  exact lL (.emp _)
 have N:g.c5:=uy hr
 have e0:fR g 302 0 eu=cD g:=by unfold cD;rw[aaL hr]
 have hT:=N.ax;have hN:=N.av
 simp(disch:=omega)only[↓wr,seval,wq]
 intro Y q2 O q3 da
 have b7:cT g ⟨-1,0⟩:=(mF (g:=g)).bz ⟨[⟨-1,0⟩],[]⟩ (by simp[eu]) |>.2.2 _ (by simp)
 have o0:bw (((View.set (λ_=>cr.dead) Y (.arr 2 [[gi (-1),gi 0]])).set q2 (.arr 2 [[.sl Y 0 1 2,.emp 1]]))) ((.sl q2 0 1 2,2,fI [(.sl Y 0 1 2,.emp 1,⟨[⟨-1,0⟩],[]⟩)])::nG [(.sl Y 0 1 2,.emp 1,⟨[⟨-1,0⟩],[]⟩)]):=
  (((bw.nil.emp (k:=1) (sz:=2)).new (n:=Y) rfl 2 [[gi (-1),gi 0]]).new (by simpa [View.set] using O) 2 [[.sl Y 0 1 2,.emp 1]])
 have o1:=o0.fresh (n:=q3) (by simpa [View.set] using da) (o:=.map [] 0)
 have b0:((((View.set (λ_=>cr.dead) Y (.arr 2 [[gi (-1),gi 0]])).set q2 (.arr 2 [[.sl Y 0 1 2,.emp 1]])).set q3 (.map [] 0))) q3=.map (cO iY []) 0:=by simp[View.set,cO]
 generalize (((View.set (λ_=>cr.dead) Y (.arr 2 [[gi (-1),gi 0]])).set q2 (.arr 2 [[.sl Y 0 1 2,.emp 1]])).set q3 (.map [] 0))=H3 at o1 b0 ⊢
 clear o0 O da
 have db:aQ H3 (.sl Y 0 1 2) 2 (bf [⟨-1,0⟩]):=o1.1 _ (aa6 _ (abP ..))
 refine ay.cw ((JQ g N [⟨-1,0⟩] (λx Z=>by simp at Z;subst Z;exact b7) (by simp) (.sl Y 0 1 2) H3 db).mono ?_)
 rintro r H4 ⟨rfl,k4⟩
 have cj:H4 q3=.map (cO iY []) 0:=by rw[k4 q3 (by rw[b0];simp),b0]
 simp(disch:=omega)only[↓wr,seval,wq,X2]
 refine yE (kt:=9) (et:=3) (by kernel_rfl) (Kp Tryz.underlying9) (id:=q3) (c:=0) (m:=[]) (k:=gT [⟨-1,0⟩]) (v:=gi 0) (by simp(disch:=omega)only[↓wr,seval]) (by simp(disch:=omega)only[↓wr,seval]) rfl cj ?_
 intro L
 have dc:tY g eu (bN (gT [⟨-1,0⟩]) (gi 0) 0 []):=tY.put (out:=[]) N (λl _=>by simp[getM,findD]) (λx Z=>by simp at Z;subst Z;exact b7) (by simp[findD]) 0
 have o2:=(o1.stay k4).E0 cj (o:=.map (cO iY (bN (gT [⟨-1,0⟩]) (gi 0) 0 [])) L)
 have ck:(H4.set q3 (.map (cO iY (bN (gT [⟨-1,0⟩]) (gi 0) 0 [])) L)) q3=.map (cO iY (bN (gT [⟨-1,0⟩]) (gi 0) 0 [])) L:=by simp[View.set]
 generalize H4.set q3 (.map (cO iY (bN (gT [⟨-1,0⟩]) (gi 0) 0 [])) L)=H5 at o2 ck ⊢
 clear cj b0 k4 db o1
 clear H4 H3
 simp(disch:=omega)only[↓wr,seval,wq]
 refine aW.intro (AbI g) 302 ⟨0,_,_,eu,q3,L,_,rfl,rfl,o2,mF,aaQ _,by simp[eu],e0,by omega,ck,dc,rfl,rfl,rfl,rfl⟩ ?_
 clear o2 ck dc
 clear H5 Y q2 q3 L
 rintro m T H ⟨at_,u,S,out,q,c,M,hm,rfl,P,hI,h1,b8,hl,hle,w,G,t1,t5,t6,t7⟩
 have aq:cE u=some S.length:=by rw[P.head.len,dy]
 simp only[aaM] at h1 b8 hle
 simp(disch:=omega)only[↓wr,seval,wq,x9,t5,t7,aq]
 apply ao.dec<;>intro hc
 rotate_left
 .simp(disch:=omega)only[↓wr,seval,wq,t5]
  have e1:cD g=(S.map (λx=>x.2.2),0):=by
   rw[<-hl]
   cases m with
   | zero=>rfl
   | succ m=>rw[fR,aaI (by simp;omega)]
  rw[e1]
  rintro h' rfl
  exact lL (GQ P.head λx Z=>⟨P.1 _ (aa6 _ (oZ Z).1),P.1 _ (aa6 _ (oZ Z).2)⟩)
 obtain⟨m,rfl⟩:∃q,m=q+1:=⟨m-1,by omega⟩
 have ar:at_<S.length:=by omega
 obtain⟨d,x,t,rfl,ab,Z⟩:=z8 ar
 have cu:x∈d++x::t:=by simp
 obtain⟨dj,e8,a1⟩:=hI.bz x.2.2 (List.mem_map_of_mem cu)
 have e9:=ll N dj a1
 have hh:aQ H u 2 (fI (d++x::t)):=P.head
 obtain⟨id,hu,C⟩:=hh.sl (by rw[dy];omega)
 have a6:(fI (d++x::t)).getD at_ []=[x.1,x.2.1]:=by simp[fI,<-ab]
 have dm:dp g ((List.map (λx=>x.2.2) (d++x::t)).getD at_ bY).bz=dp g x.2.2.bz:=by
  rw[aaG,aaJ,Z];rfl
 have b9:=λn hn=>eo.row (hI.nQ N (show at_<((d++x::t).map λx=>x.2.2).length by simpa using ar)).1 (hI.nQ N (show at_<((d++x::t).map λx=>x.2.2).length by simpa using ar)).2 hI n hn
 rw[fR,aaL (by simpa using ar),xq] at hl
 rw[dm] at hl b9
 have ds:=uK g x.2.2.bz
 have cv:∀y∈dp g x.2.2.bz,cT g y:=λy hy=>((gO N a1).1 hy).has a1
 rw[dy] at hu
 simp(disch:=omega)only[↓wr,seval,wq,t1,t5,t7,hu,C,a6,ak,encS]
 refine⟨by omega,by rw[dy];omega,?_⟩
 refine ay.Hs (MS g N x.2.2.bz a1 (by omega) x.1 H (P.1 _ (aa6 _ (oZ cu).1))) ?_
 intro r H2 or fr
 simp(disch:=omega)only[↓wr,seval,wq]
 have fy:=ll N ds cv
 refine ay.still (VX g N (dp g x.2.2.bz) cv (by omega) r H2 or) (λr H' h=>by obtain⟨q,A,_,h⟩:=h;exact h.old) ?_
 rintro r2 H6 ⟨U,A,rfl,D⟩
 have cC:∀id,H id≠.dead->H6 id=H id:=λid C=>by rw[D.old id (by rw[(fr id C).1];exact C),(fr id C).1]
 have ca:H6 q=.map (cO iY M) c:=by rw[cC q (by rw[w];simp),w]
 have o6:bw H6 ((u,2,fI (d++x::t))::(nG (d++x::t)++jO g (dp g x.2.2.bz) (A.filter λy=>decide (((0:Nat):Int)<=y.1)))):=by
  have hA:A.filter (λy=>decide (((0:Nat):Int)<=y.1))=A:=List.filter_eq_self.2 λy hy=>by simpa using (D.ne y hy).1
  rw[hA]
  refine(P.stay cC).join (M:=jO g (dp g x.2.2.bz) A) D.own λa ha b hb id h1 h2=>?_
  obtain⟨y,hy,rfl⟩:=aa4.1 hb
  have h3:=D.new y hy id h2
  have h4:=P.live ha h1
  rw[(fr id h4).1] at h3
  exact h4 h3
 obtain⟨cA,Q⟩:=D.mp
 have hAnd:=D.nd
 have fb:U≠q:=by
  rintro rfl
  have:=D.q0
  rw[(fr _ (by rw[w];simp)).1,w] at this;simp at this
 have a7:∀k:Nat,(getM A (k:Int)=none->bu g (dp g x.2.2.bz) (bg g k)=[]):=λk h=>ack λae=>getM_none.1 h (D.all k ae)
 clear or fr C a6 dm Z cC D w
 generalize dp g x.2.2.bz=cl at *
 generalize E:(d++x::t).map (λx=>x.2.2)=a8 at *
 have dv:a8.length=(d++x::t).length:=by rw[<-E];simp
 simp(disch:=omega)only[↓wr,seval,wq,t1,ak,encS]
 refine aW.up (g.ax.length+g.av.length) (λi T H'=>∃(u:V) (S:List rj) (M:cH (List UInt8)) (c:Nat),S.map (λx=>x.2.2)=(List.range i).foldl (dw g cl at_) a8/\bw H' ((u,2,fI S)::(nG S++jO g cl (A.filter λy=>decide (((i:Nat):Int)<=y.1)))) /\
  H' U=.map (cO (Value.int .i64) A) cA/\H' q=.map (cO iY M) c/\tY g (S.map λx=>x.2.2) M/\T 1=.aP (ak g) 0/\T 5=u/\T 6=.mp q/\T 7=gi at_/\T 8=.mp U/\T 47=gi ((g.ax.length+g.av.length:Nat):Int)/\T 48=gi i)
  ⟨u,_,M,c,E,o6,Q,ca,by rw[E];exact G,t1,by rw[<-hu];exact t5,t6,t7,rfl,?_,rfl⟩ ?_
 .push_cast;rfl
 rw[<-dv] at h1 b8 hle ar
 clear o6 P hh hu t1 t5 t6 t7 aq E cu dv hc dj e8 a1 e9 ab Q ca G
 clear u H H2 H6 T id d x t M c r
 rintro i k T H' hk ⟨u,S,M,c,hA,P,Q,w,G,t1,t5,t6,t7,t8,t47,t48⟩
 obtain⟨iI,ea,eb⟩:=b9 i (by omega)
 rw[<-hA] at iI ea eb
 rw[aaM] at ea eb
 have aq:cE u=some S.length:=by rw[P.head.len,dy]
 simp(disch:=omega)only[↓wr,seval,wq,yF,t47,t48]
 apply ao.dec<;>intro hc
 rotate_left
 .have hi:i=g.ax.length+g.av.length:=by omega
  subst hi
  rw[<-hA] at hl
  simp(disch:=omega)only[↓wr,seval,wq,t5,t7,aq]
  apply ao.dec<;>intro h3
  .simp(disch:=omega)only[↓wr,seval,wq]
   intro h' _
   rw[aaL (by rw[aaM];omega)] at hl
   rw[<-hl]
   exact lL (.emp _)
  .simp(disch:=omega)only[↓wr,seval,wq,t5,t7]
   rw[aaI (by rw[aaM];omega)] at hl
   exact⟨m,by omega,at_+1,u,S,_,q,c,M,by omega,rfl,P.sub (List.Sublist.cons_cons _ (List.sublist_append_left _ _)),iI.next,by rw[aaM];omega,by rw[aaM];omega,hl,by rw[aaM];omega,w,G,t1,t5,t6,rfl⟩
 have ff:i<g.ax.length+g.av.length:=by omega
 have fz:=Gu N ff
 have bd:(List.range (i+1)).foldl (dw g cl at_) a8=dw g cl at_ (S.map λx=>x.2.2) i:=by rw[ab9,ace,<-hA];rfl
 have ee:aQ H' ((getM A (i:Int)).getD (.emp 1)) 2 (bf (bu g cl (bg g i))):=by
  cases hg:getM A (i:Int) with
  | none=>rw[a7 i hg];exact .nil
  | some v =>
   obtain⟨b,hp⟩:=Kv hAnd hg
   refine P.1 (v,2,bf (bu g cl (bg g i))) (aa6 _ (List.mem_append_right _ (aa4.2 ⟨((i:Int),v,b),hp.mem_iff.2 (by simp),?_⟩)))
   simp
 have cb:(jO g cl (A.filter λy=>decide (((i+1:Nat):Int)<=y.1))).Sublist (jO g cl (A.filter λy=>decide (((i:Nat):Int)<=y.1))):=by
  have:A.filter (λy=>decide (((i+1:Nat):Int)<=y.1))=(A.filter (λy=>decide (((i:Nat):Int)<=y.1))).filter (λy=>decide (((i+1:Nat):Int)<=y.1)):=by
   rw[List.filter_filter]
   refine List.filter_congr λy _=>?_
   rw[<-Bool.decide_and,decide_eq_decide];omega
  rw[this]
  exact(List.filter_sublist).map _
 simp(disch:=omega)only[↓wr,seval,wq,t8,t48]
 refine CO (kt:=3) (et:=103) (z:=.emp 1) (by kernel_rfl) (by kernel_rfl) (mG .i64 Tryz.underlying3) (id:=U) (c:=cA) (m:=A) (k:=(i:Int)) (by simp(disch:=omega)only[↓wr,seval]) (by simp(disch:=omega)only[↓wr,seval]) Q ?_
 simp(disch:=omega)only[↓wr,seval,wq]
 refine ay.cw ((Uk (I5 (bg g i) ds) (by have:=vH (g:=g) (l:=cl) (s:=bg g i);omega) _ H' ee).mono ?_)
 rintro r _ ⟨rfl,or,ef⟩
 have ga:=vH (g:=g) (l:=cl) (s:=bg g i)
 have b1:=Kz (s:=bg g i) cv
 have fl:cE r=some (bu g cl (bg g i)).length:=by rw[or.len,bR]
 simp(disch:=omega)only[↓wr,seval,wq,fl]
 apply ao.eq<;>intro he
 .have eg:bu g cl (bg g i)=[]:=ab3.1 (by omega)
  simp(disch:=omega)only[↓wr,seval,wq,t5,t7,t48]
  exact aE hk (by omega) ⟨u,S,M,c,by rw[bd,dw,aaL eg],P.sub (List.Sublist.cons_cons _ (cb.append_left _)),Q,w,G,t1,t5,t6,t7,t8,t47,rfl⟩
 have ae:bu g cl (bg g i)≠[]:=λe=>he (by rw[e];rfl)
 have fm:∃v,getM A (i:Int)=some v:=by
  cases hg:getM A (i:Int) with
  | none=>exact absurd (a7 i hg) ae
  | some v=>exact⟨v,rfl⟩
 obtain⟨v,hg⟩:=fm
 have cI:=ef ae
 rw[hg] at cI
 simp only[aaZ] at cI
 obtain⟨b,cN⟩:=Kv hAnd hg
 have b2:(jO g cl (A.filter λy=>decide (((i:Nat):Int)<=y.1))).Perm ((r,2,bf (bu g cl (bg g i)))::jO g cl (A.filter λy=>decide (((i+1:Nat):Int)<=y.1))):=by
  have:=cN.map (λx:Int × V × Nat=>((x.2.1,2,bf (bu g cl (bg g x.1.toNat))):ew))
  simp only[aba,abk] at this
  rw[cI];exact this
 have fs:=zJ (S.map λx=>x.2.2) (bu g cl (bg g i))
 have gd:=vg (S.map λx=>x.2.2) (bu g cl (bg g i))
 rw[aaM] at fs
 have b3:=G (bu g cl (bg g i)) b1
 have ei:at_<S.length:=by omega
 obtain⟨d,x,t,I,ab,Z⟩:=z8 ei
 have gk:x.2.2.cF.length<=40:=(iI.cF at_ x.2.2 (by rw[aaJ,Z];rfl)).1
 have a6:∀B,(fI (d++x::B)).getD at_ []=[x.1,x.2.1]:=λB=>by simp[fI,<-ab]
 have ej:∀(B:List rj) (c:fV),((d++x::B).map λx=>x.2.2).modify at_ (λs=>(⟨s.bz,s.cF++[c]⟩:ba))=(d++(x.1,x.2.1,(⟨x.2.2.bz,x.2.2.cF++[c]⟩:ba))::B).map λx=>x.2.2:=λB c=>by
  rw[aa8,aba,<-ab,<-aaM (f:=λx:rj=>x.2.2),FC,aa8,aba]
 simp(disch:=omega)only[↓wr,seval,wq,t1,ak,encS]
 apply ao.dec<;>intro ft
 simp(disch:=omega)only[↓wr,seval,wq,t1,t6,ak,encS]
 have hs:bg g i=(g.ax.length:Int)-1-i:=by unfold bg;rw[aaI (by omega)];omega
 generalize (g.ax.length:Int)-1-(i:Int)=sv at hs ⊢
 rotate_left
 simp(disch:=omega)only[↓wr,seval,wq,t6]
 have hs:bg g i=(i:Int):=by unfold bg;rw[aaL (by omega)]
 generalize ((i:Nat):Int)=sv at hs ⊢
 all_goals (
  refine ay.cw ((JQ g N (bu g cl (bg g i)) b1 (by omega) r H' or).mono ?_)
  rintro rk H3 ⟨rfl,k3⟩
  have W:H3 q=.map (cO iY M) c:=by rw[k3 q (by rw[w];simp),w]
  have bl:H3 U=.map (cO (Value.int .i64) A) cA:=by rw[k3 U (by rw[Q];simp),Q]
  have o3:=P.stay k3
  have fv:aQ H3 r 2 (bf (bu g cl (bg g i))):=or.keep λid C=>k3 id (by rw[(or.live C).1];simp)
  simp(disch:=omega)only[↓wr,seval,wq]
  refine WC (kt:=9) (et:=3) (z:=gi 0) (by kernel_rfl) (by kernel_rfl) (Kp Tryz.underlying9) (id:=q) (c:=c) (m:=M) (k:=gT (bu g cl (bg g i))) (by simp(disch:=omega)only[↓wr,seval]) (by simp(disch:=omega)only[↓wr,seval]) W ?_
  by_cases J:findD (S.map λx=>x.2.2) (bu g cl (bg g i))<0
  rw[aaL J] at b3
  rw[b3]
  simp only[Option.getD_none,Option.isSome_none]
  simp(disch:=omega)only[↓wr,seval,wq,t5,t6,aq]
  refine ay.cw ((JQ g N (bu g cl (bg g i)) b1 (by omega) r H3 fv).mono ?_)
  rintro gr H4 ⟨rfl,k4⟩
  have bn:H4 q=.map (cO iY M) c:=by rw[k4 q (by rw[W];simp),W]
  have cc:H4 U=.map (cO (Value.int .i64) A) cA:=by rw[k4 U (by rw[bl];simp),bl]
  have o4:=o3.stay k4
  simp(disch:=omega)only[↓wr,seval,wq]
  refine yE (kt:=9) (et:=3) (by kernel_rfl) (Kp Tryz.underlying9) (id:=q) (c:=c) (m:=M) (k:=gT (bu g cl (bg g i))) (v:=gi S.length) (by simp(disch:=omega)only[↓wr,seval]) (by simp(disch:=omega)only[↓wr,seval]) (by simp(disch:=omega)only[↓wr,seval]) bn ?_
  intro L
  have R:tY g ((d++x::(t++[(r,.emp 1,(⟨bu g cl (bg g i),[]⟩:ba))])).map λx=>x.2.2) (bN (gT (bu g cl (bg g i))) (gi S.length) c M):=by
   have:=tY.put N G b1 J c
   rw[aaM] at this
   refine this.same ?_
   rw[I];simp
  have K:(H4.set q (.map (cO iY (bN (gT (bu g cl (bg g i))) (gi S.length) c M)) L)) q=.map (cO iY (bN (gT (bu g cl (bg g i))) (gi S.length) c M)) L:=by simp[View.set]
  have X:(H4.set q (.map (cO iY (bN (gT (bu g cl (bg g i))) (gi S.length) c M)) L)) U=.map (cO (Value.int .i64) A) cA:=by
   simp only[View.set];rw[aaI fb];exact cc
  have o5:=o4.E0 bn (o:=.map (cO iY (bN (gT (bu g cl (bg g i))) (gi S.length) c M)) L)
  generalize H4.set q (.map (cO iY (bN (gT (bu g cl (bg g i))) (gi S.length) c M)) L)=H5 at K X o5 ⊢
  clear bn cc o4 k4
  generalize bN (gT (bu g cl (bg g i))) (gi S.length) c M=M2 at R K
  simp(disch:=omega)only[↓wr,seval,wq,t5,or.cells,or.dU]
  intro q5 br
  simp(disch:=omega)only[↓wr,seval,wq,bE]
  have al:∀b,H5 b≠.dead->b≠q5:=λb hb e=>hb (by rw[e];exact br)
  refine dC (o5.fresh br) (by simp[or.dU,CM]) (by unfold aF;rw[dy];simp;omega) (by unfold aF;rw[dy];simp;omega) ?_
  intro u2 b4 ek cS
  have j:=cS.map (o5.fresh (o:=.arr 2 [[r,.emp 1]]) br).head (b:=q) (c:=L) (es:=cO iY M2) (by simp only[View.set];rw[aaI (al q (by rw[K];simp)),K])
  have F:=cS.map (o5.fresh (o:=.arr 2 [[r,.emp 1]]) br).head (b:=U) (c:=cA) (es:=cO (Value.int .i64) A) (by simp only[View.set];rw[aaI (al U (by rw[X];simp)),X])
  have eH:=(ek.emp (k:=1) (sz:=2)).perm (Y3 b2)
  have an:dw g cl at_ (S.map λx=>x.2.2) i=((d++x::(t++[(r,.emp 1,(⟨bu g cl (bg g i),[]⟩:ba))])).map λx=>x.2.2).modify at_ (λs=>(⟨s.bz,s.cF++[⟨bg g i,(S.length:Int)⟩]⟩:ba)):=by
   rw[dw,aaI ae,aaL J,aaM]
   congr 1
   rw[I];simp
  have p:bw b4 ((u2,2,fI (d++x::(t++[(r,.emp 1,(⟨bu g cl (bg g i),[]⟩:ba))])))::(nG (d++x::(t++[(r,.emp 1,(⟨bu g cl (bg g i),[]⟩:ba))]))++jO g cl (A.filter λy=>decide (((i+1:Nat):Int)<=y.1)))):=by
   have e1:fI (d++x::(t++[(r,.emp 1,(⟨bu g cl (bg g i),[]⟩:ba))]))=fI S++[[r,.emp 1]]:=by rw[I];simp[fI]
   have e2:nG (d++x::(t++[(r,.emp 1,(⟨bu g cl (bg g i),[]⟩:ba))]))=nG S++[(r,2,bf (bu g cl (bg g i))),(.emp 1,2,[])]:=by rw[I];simp[nG];rfl
   rw[e1,e2]
   exact eH
  have cV:(d++x::(t++[(r,V.emp 1,(⟨bu g cl (bg g i),[]⟩:ba))])).length<=400:=by
   have:=abQ List.length I
   simp at this ⊢;omega
  generalize (t++[(r,V.emp 1,(⟨bu g cl (bg g i),[]⟩:ba))])=B at an p R cV
  generalize (S.length:Int)=to at an ⊢
  clear ek eH cS K X o5 al br
  rotate_left
  rw[aaI J] at b3
  rw[b3]
  simp only[aaZ,Option.isSome_some]
  simp(disch:=omega)only[↓wr,seval,wq,t5,t7]
  have an:dw g cl at_ (S.map λx=>x.2.2) i=((d++x::t).map λx=>x.2.2).modify at_ (λs=>(⟨s.bz,s.cF++[⟨bg g i,findD (S.map λx=>x.2.2) (bu g cl (bg g i))⟩]⟩:ba)):=by
   rw[dw,aaI ae,aaI J,<-I]
  have p:=o3.sub (List.Sublist.cons_cons _ (cb.append_left _))
  have R:=G
  have cV:(d++x::t).length<=400:=by rw[<-I];omega
  have j:=W
  have F:=bl
  generalize H3=b4 at p j F ⊢
  generalize u=u2 at p t5 ⊢
  rw[I] at p R
  generalize findD (S.map λx=>x.2.2) (bu g cl (bg g i))=to at an ⊢
  generalize t=B at an p R cV
  generalize M=M2 at j R
  generalize c=L at j
  all_goals (
   obtain⟨id,hu,C⟩:=(show aQ b4 u2 2 (fI (d++x::B)) from p.head).sl (by rw[dy];simp;omega)
   rw[dy] at hu
   rw[CT] at p
   simp only[abM,abl] at p
   simp(disch:=omega)only[↓wr,seval,wq,t7,hu,C,a6 B]
   refine⟨by simp;omega,by rw[dy];simp;omega,?_⟩
   intro q2 O
   have al:∀b,b4 b≠.dead->b≠q2:=λb hb e=>hb (by rw[e];exact O)
   simp(disch:=omega)only[↓wr,seval,wq,bE]
   refine dC ((p.perm JD).fresh O) (by simp[aL]) (by unfold aF;simp[kU];omega) (by unfold aF;simp[kU];omega) ?_
   intro e2 e3 b5 e4
   have bs:=e4.map ((p.perm JD).fresh (o:=.arr 2 [[gi sv,gi to]]) O).head (b:=q) (c:=L) (es:=cO iY M2) (by simp only[View.set];rw[aaI (al q (by rw[j];simp)),j])
   have bx:=e4.map ((p.perm JD).fresh (o:=.arr 2 [[gi sv,gi to]]) O).head (b:=U) (c:=cA) (es:=cO (Value.int .i64) A) (by simp only[View.set];rw[aaI (al U (by rw[F];simp)),F])
   have cf:e3 id=.arr 2 (fI (d++x::B)):=((b5.own 1 rfl).live (by rw[hu];rfl)).1
   simp(disch:=omega)only[↓wr,seval,wq,t5,t7,t48,hu,cf,a6 B,b5.head.cells,b5.head.dU]
   have e5:(fI (d++x::B)).set at_ [x.1,e2]=fI (d++(x.1,e2,(⟨x.2.2.bz,x.2.2.cF++[⟨bg g i,to⟩]⟩:ba))::B):=by
    rw[<-ab];simp[fI]
   have fx:kU (x.2.2.cF++[⟨bg g i,to⟩])=kU x.2.2.cF++[[gi sv,gi to]]:=by rw[hs];simp[kU,lX]
   have e6:=b5.perm (.swap _ _ _)
   rw[hu] at e6
   have c3:=((e6.put (es':=fI (d++(x.1,e2,(⟨x.2.2.bz,x.2.2.cF++[⟨bg g i,to⟩]⟩:ba))::B)) (by rw[dy,dy];simp) (by rw[dy])).perm (.swap _ _ _)).perm JD.symm
   rw[<-fx] at c3
   rw[<-hu] at c3
   rw[e5]
   have ch:∀b c es,e3 b=.map es c->b≠id:=λb c es hb e=>by rw[e,cf] at hb;simp at hb
   refine⟨by simp;omega,by rw[dy];simp;omega,aE hk (by omega) ⟨u2,_,M2,L,?_,by rw[CT];simp only[abM,abl];exact c3,?_,?_,?_,t1,by first | rfl | exact t5 | exact hu.symm,t6,t7,t8,t47,rfl⟩⟩
   .rw[bd,an,ej];simp
   .simp only[View.set];rw[aaI (ch U _ _ bx)];exact bx
   .simp only[View.set];rw[aaI (ch q _ _ bs)];exact bs
   .refine R.same ?_
    simp))
abbrev tK (g:aj) (a:List ba) (q:Nat) (us uf:V):List V:=[V.aZ (g.ax.map dd),.aZ (g.av.map λs=>[gs s]),.aZ (g.rules.map aO),gi g.start,cm a,.mp q,us,uf]
def we (H:View) (u:V) (l:List Int):Prop:=u=encI l∨∃n x d,u=.sl n d l.length 1/\H n=.arr 1 [[gi x]]/\d<=1/\l=[x].drop d
theorem we.kH {H:View} {u:V} {l:List Int} (h:we H u l):cq H u (encI l):=by
 rcases h with rfl | ⟨n,x,d,rfl,c,f,a⟩
 .exact .tree (bC l)
 .have g:l.length=1-d:=by rw[a];simp
  have:=cq.sl (off:=d) (len:=l.length) (esz:=1) c (by simp;omega) (by intro e he v b;simp at he;subst he;simp at b;subst b;exact .val _)
  rw[show (List.drop d [[gi x]]).take l.length=aR l by
   rw[a]
   match d,f with
   | 0,_=>rfl
   | 1,_=>rfl] at this
  exact this
theorem we.keep {H H':View} {u:V} {l:List Int} (h:we H u l) (hk:∀id,H id≠.dead->H' id=H id):we H' u l:=by
 rcases h with rfl | ⟨n,x,d,h1,a,b,c⟩
 .exact .inl rfl
 .exact .inr ⟨n,x,d,h1,by rw[hk n (by rw[a];simp)];exact a,b,c⟩
def qM:SF:=⟨ai [ag [cg 3 1,bU 4 1],ai [ag [aw 5 0 3,au 6 5,aH 7 .lss 6 0],aX 7 (ai [ag [af 8 0,fO 9 8,aw 10 0 9,aw 11 3 10,au 12 11,((some 13),.op (.arith .sub (.val (.val (.int .i64 (-1)))) (.tmp 12))),((some 14),.op (.bO 1 1 [(.val (.int .i64 0))] [(0,(.tmp 13))])),aw 15 1 3,au 16 15,((some 17),.op (.slice 1 (.tmp 14) (some (.tmp 16)) none)),af 4 17],.ret])],ag [af 18 0,fO 19 18,aw 20 0 19,aw 21 2 20,au 22 21,aw 23 0 3,au 24 23,aK 25 3 22 24,aw 26 1 25,au 27 26,aw 28 1 3,au 29 28,((some 30),.op (.slice 1 (.tmp 27) (some (.tmp 29)) none)),af 4 30],.ret],
 [.tmp 4],31⟩
theorem vV:aJ aa 127 [3]=some qM:=by kernel_rfl
def qf:SF:=⟨ai [ag [cg 3 1],ai [.yQ (212,7,9) [] [⟨none,[af 4 0,fO 5 4,aw 6 5 5,au 7 6,aw 8 0 3,aU 9 3 8,((some 10),.op (.old (.lookup 212 (.tmp 7) (.tmp 9) false) 3)),aH 11 .add 10 1,((some 12),.op (.old (.mapEntry 212 (.tmp 7) (.tmp 9)) 0)),du 13 1 12,(none,.op (.old (.entryStore 212 (.tmp 7) (.tmp 13) (.tmp 11)) 0))]⟩],ag [af 14 0,fO 15 14,aw 16 5 15,au 17 16,aw 18 0 3,aU 19 3 18,((some 20),.op (.old (.lookup 212 (.tmp 17) (.tmp 19) false) 3)),aH 21 .gtr 20 1],aX 21 (.ret)],ai [ag [af 22 0,fO 23 22,aw 24 7 23,au 25 24,aw 26 0 3,aw 27 0 26,au 28 27,aK 29 1 25 28,au 30 29,aH 31 .lss 30 0],aX 31 (ag [af 32 0,fO 33 32,aw 34 7 33,au 35 34,aw 36 0 3,aw 37 0 36,au 38 37,af 39 0,fO 40 39,aw 41 6 40,au 42 41,aM 43 42,aK 44 1 35 38,cz 1 44 43])],ag [af 45 0,af 46 0,fO 47 46,aw 48 6 47,au 49 48,aU 50 5 3,((some 51),.op (.bO 1 5 [(.val (.int .i64 0)),(.val (.int .i64 0)),(.val (.int .i64 0)),(.emp 1),(.emp 1)] [(0,(.tmp 50))])),fP 52 5 72 49 51,fO 53 45,aw 54 6 53,cz 1 54 52]],
 [],55⟩
theorem vZ:aJ aa 125 [3,100000]=some qf:=by kernel_rfl
theorem OI (g:aj) (o:bp (-1-g.start)) (a:List ba) (q:Nat) (us p:V) (b:Nat) (H:View) (j:H b=.arr 8 [tK g a q us p]) (x:aN) (s:cT g x):
  az aa 127 [.ptr b 0 0,.agg (bK x)] H λr H'=>we H' r (dH g x)/\ct H H' r:=by
 obtain⟨⟨v,w⟩,y,c⟩:=s
 unfold bp at o
 refine az.of mixed vV ?_
 simp(disch:=omega)only[↓wr,seval,wq,qM,bK]
 obtain⟨d,f⟩:∃d:Nat,x.dot=d:=⟨x.dot.toNat,by omega⟩
 unfold dH
 unfold bV at c ⊢
 rw[f] at c ⊢
 rw[abk]
 apply ao.dec<;>intro h1
 .rw[aaL (by omega)] at c ⊢
  simp at c
  simp(disch:=omega)only[↓wr,seval,wq,j]
  intro n t
  simp(disch:=omega)only[↓wr,seval,wq,qT (sz:=1) (id:=n) (off:=0) (k:=1) (m:=d) (by omega)]
  refine⟨.inr ⟨n,-1-g.start,d,?_,by simp[View.set],by omega,rfl⟩,λid h=>?_⟩
  .simp
  .have e:¬ id=n:=by rintro rfl;exact h t
   exact⟨by simp[View.set,e],by simp[owner,Ne.symm e]⟩
 .rw[aaI (by omega)] at c ⊢
  have u:g.rules[x.aB.toNat]?=some (b6 g x.aB):=by unfold b6;exact getD_some (by omega)
  have i:=uI (l:=(b6 g x.aB).right) (k:=d) (by omega)
  simp(disch:=omega)only[↓wr,seval,wq,j,aO,encI,aaJ,u,i]
  exact⟨.inl rfl,λ_ _=>⟨rfl,by simp[owner]⟩⟩
def Jx (m:cH zo) (l:List bL) (B:Nat):Prop:=∀k:zo,∃n:Nat,(getM m k).getD (gi 0)=gi n/\n<=B/\(n=0↔∀x∈l,ju x≠k)
def fu (a:List ba) (l:List bL):List Int:=(List.range a.length).map λ(i:Nat)=>gW l i 0
structure ZU (H:View) (b:Nat) (g:aj) (a:List ba) (l:List bL) (B:Nat) (q:Nat) (us uf:V) (S:List eE) (m:cH zo) (c:Nat) (K:List ew):Prop where
 own:bw H ((us,5,S.map dI)::(uf,1,aR (fu a l))::(.sl b 0 1 8,8,[tK g a q us uf])::K)
 map:H q=.map (cW vM m) c
 born:k8 m c
 seen:Jx m l B
 is:S.map eE.n=l
 ok:∀y∈S,y.Ok
def fL (H:View) (b:Nat) (g:aj) (a:List ba) (l:List bL) (B:Nat) (K:List ew):Prop:=∃q us uf S m c,ZU H b g a l B q us uf S m c K
theorem zp (i:Int):∀(l:List bL) (n:Nat),gW l i n<0->gW l i n = -1
 | [],_,_=>rfl
 | x::l,n,h=>by
  rw[gW] at h ⊢
  split
  .rename_i e;rw[aaL e] at h;omega
  .rename_i e;rw[aaI e] at h;exact zp i l (n+1) h
theorem HX (i:Int):∀(l:List bL) (n:Nat),gW l i n<(n+l.length:Nat)
 | [],n=>by rw[gW];omega
 | x::l,n=>by
  rw[gW]
  split
  .simp only[aaS];omega
  .have:=HX i l (n+1)
   simp only[aaS];omega
theorem Kj {l:List bL} {x:bL} : l.any (jB x)=true↔∃y∈l,ju y=ju x:=by
 rw[abU]
 refine⟨λ⟨y,a,h⟩=>⟨y,a,?_⟩,λ⟨y,a,h⟩=>⟨y,a,?_⟩⟩
 .rw[<-Ig,abJ] at h;exact h.symm
 .rw[<-Ig,abJ];exact h.symm
theorem Jx.put {m:cH zo} {l:List bL} {B c c0:Nat} (h:Jx m l B) (x:bL) {n:Nat} (g:(getM m (ju x)).getD (gi 0)=gi n) (v:V):Jx (bN (ju x) (gi (n+1:Nat)) c0 (bN (ju x) v c m)) (iW l x) (B+1):=by
 intro k
 obtain⟨j,h1,p,i⟩:=h k
 rw[lx]
 have hm:∀z,z∈iW l x↔z∈l∨(z=x/\l.any (jB x)=false):=λz=>by
  unfold iW
  split
  .rename_i e;rw[e];simp
  .rename_i e;simp only[Bool.not_eq_true] at e;rw[e];simp
 by_cases e:k=ju x
 .subst e
  refine⟨n+1,by simp,?_,⟨λe=>by omega,λe=>?_⟩⟩
  .rw[g] at h1
   simp at h1
   omega
  .exfalso
   by_cases d:l.any (jB x)=true
   .obtain⟨y,o,hk⟩:=Kj.1 d
    exact e y ((hm y).2 (.inl o)) hk
   .exact e x ((hm x).2 (.inr ⟨rfl,by simpa using d⟩)) rfl
 .have f:(k==ju x)=false:=by simpa using e
  refine⟨j,?_,by omega,i.trans ⟨λb z a=>?_,λb z a=>b z ((hm z).2 (.inl a))⟩⟩
  .rw[f]
   simp only[aa9,if_false]
   rw[lx,f]
   simpa using h1
  .rcases (hm z).1 a with a | ⟨rfl,_⟩
   .exact b z a
   .exact Ne.symm e
theorem QA {a:List ba} {l:List bL} {x:bL} : fu a (l++[x])=if gW l x.st 0<0 then (fu a l).set x.st l.length else fu a l:=by
 unfold fu
 apply List.ext_getElem?
 intro i
 rw[aaJ]
 by_cases hi:i<a.length
 .rw[acd hi,aaU,Gd,abx]
  split
  .rename_i b
   by_cases e:x.st=i
   .subst e
    rw[aaL rfl,aaL b,acA (by simpa using hi)]
   .rw[aaI (by omega)]
    split
    .rw[List.getElem?_set_ne e,aaJ,acd hi,aaU,zp _ _ _ b]
    .rw[aaJ,acd hi,aaU,zp _ _ _ b]
  .rename_i c
   split
   .rename_i d
    have e:x.st≠i:=by rintro rfl;exact c d
    rw[List.getElem?_set_ne e,aaJ,acd hi,aaU]
   .rw[aaJ,acd hi,aaU]
 .rw[abi (by simpa using hi)]
  split
  .rw[abi (by simpa using hi)];rfl
  .rw[abi (by simpa using hi)];rfl
theorem R3 {H:View} {L:List ew} (h:bw H L) {q c:Nat} {es:List (V × V × Nat)} (a:H q=.map es c) {n k sz:Nat} {xs:List (List V)} (hm:(.sl n 0 k sz,sz,xs)∈L):n≠q:=by
 rintro rfl
 exact h.JF a _ hm rfl
theorem GL (g:aj) (a:List ba) (b:Nat) (l:List bL) (B:Nat) (hB:B<1000000000000) (hl:l.length<=90000) (x:eE) (hx:x.Ok) (ab:x.n.st<a.length) (K:List ew) (H:View) (hW:fL H b g a l B K):
  az aa 125 [.ptr b 0 0,.agg (dI x)] H λ_ H'=>fL H' b g a (iW l x.n) (B+1) K:=by
 obtain⟨q,us,uf,S,m,c,w⟩:=hW
 have D:eN aa 212=some (218,3):=by kernel_rfl
 have hz:zeroV aa 3=some (gi 0):=by kernel_rfl
 have j:=VS
 have O:=Q1 hx
 obtain⟨⟨P,ae,_⟩,⟨Q,al,_⟩⟩:=And.intro hx.a.dU hx.b.dU
 simp only[dI] at O
 obtain⟨n,d,a8,an⟩:=w.seen (ju x.n)
 have hb:=w.own.is 2 rfl (by simp)
 have R:=w.map
 have T:¬ b=q:=λe=>by rw[e,R] at hb;simp at hb
 refine az.of mixed vZ ?_
 simp(disch:=omega)only[↓wr,seval,wq,qf,dI,P,Q,hb]
 refine Jv (kv:=vM) (kt:=218) (et:=3) (z:=gi 0) D hz j (id:=q) (c:=c) (m:=m) (k:=ju x.n) (by first | rfl | simp(disch:=omega)only[↓wr,seval,wq]) (by first | rfl | (simp(disch:=omega)only[↓wr,seval,wq];rfl)) R ?_
 rw[d]
 simp(disch:=omega)only[↓wr,seval,wq]
 refine RA (kv:=vM) (kt:=218) (et:=3) (z:=gi 0) D hz j (id:=q) (c:=c) (m:=m) (k:=ju x.n) (by first | rfl | simp(disch:=omega)only[↓wr,seval,wq]) (by first | rfl | (simp(disch:=omega)only[↓wr,seval,wq];rfl)) R w.born λb1 p J L=>?_
 rw[d] at J L ⊢
 simp(disch:=omega)only[↓wr,seval,wq]
 have ek:V.val (.int .i64 ((n:Int)+1))=gi (n+1:Nat):=by simp
 refine RF (kv:=vM) (id:=q) (c:=p) (b:=b1) (m:=bN (ju x.n) (gi n) c m) (k:=ju x.n) (v:=gi (n+1:Nat)) (by first | rfl | simp(disch:=omega)only[↓wr,seval,wq]) (by first | rfl | simp(disch:=omega)only[↓wr,seval,wq]) (by first | exact ek | (simp(disch:=omega)only[↓wr,seval,wq];exact ek)) (by simp[View.set]) J L λc0=>?_
 simp(disch:=omega)only[↓wr,seval,wq]
 refine⟨X9 (kv:=vM) (k:=ju x.n) D hz j R w.born,?_⟩
 rw[set_set]
 have r:=w.seen.put (c:=c) (c0:=c0) x.n d (gi n)
 have M:=J.U8 L (gi (n+1:Nat)) c0
 have G:getM (bN (ju x.n) (gi (n+1:Nat)) c0 (bN (ju x.n) (gi n) c m)) (ju x.n)=some (gi (n+1:Nat)):=by rw[lx];simp
 generalize bN (ju x.n) (gi (n+1:Nat)) c0 (bN (ju x.n) (gi n) c m)=m2 at r M G ⊢
 have s:=w.own.E0 R (o:=.map (cW vM m2) p)
 have i:(H.set q (.map (cW vM m2) p)) q=.map (cW vM m2) p:=by simp[View.set]
 generalize View.set H q (.map (cW vM m2) p)=H2 at s i ⊢
 have E:=s.is 2 rfl (by simp)
 simp only[aaI T,hb]
 simp(disch:=omega)only[↓wr,seval,wq]
 refine Jv (kv:=vM) (kt:=218) (et:=3) (z:=gi 0) D hz j (id:=q) (c:=p) (m:=m2) (k:=ju x.n) (by first | rfl | simp(disch:=omega)only[↓wr,seval,wq]) (by first | rfl | (simp(disch:=omega)only[↓wr,seval,wq];rfl)) i ?_
 rw[G,aaZ]
 simp(disch:=omega)only[↓wr,seval,wq]
 have I:l.any (jB x.n)=true↔¬ n=0:=by
  rw[Kj,an]
  constructor
  .rintro⟨y,C,e⟩ h;exact h y C e
  .intro h
   refine acb λU=>h λy C e=>U ⟨y,C,e⟩
 apply ao.dec<;>intro h1
 .simp(disch:=omega)only[↓wr,seval,wq]
  have t:iW l x.n=l:=aaL (I.2 (by omega))
  rw[t] at r ⊢
  exact⟨q,us,uf,S,m2,p,s,i,M,r,w.is,w.ok⟩
 have t:iW l x.n=l++[x.n]:=aaI (λe=>by have:=I.1 e;omega)
 rw[t] at r ⊢
 have hlen:S.length=l.length:=by rw[<-w.is,aaM]
 have u:(fu a l).length=a.length:=by simp[fu]
 obtain⟨N,W,hF⟩:=(s.own 1 rfl).sl (by simp[u];omega)
 rw[aaM,u] at W
 subst W
 have X:(aR (fu a l)).getD x.n.st []=[gi (gW l x.n.st 0)]:=by
  rw[aR,aaG,aaJ,fu,aaJ,acd ab];rfl
 have bd:=HX x.n.st l 0
 have f:=QA (a:=a) (l:=l) (x:=x.n)
 simp(disch:=omega)only[↓wr,seval,wq,E,hF,X]
 refine⟨by omega,by simp[u];omega,?_⟩
 have aq:cE us=some S.length:=by rw[(s.own 0 rfl).len,aaM]
 apply ao.dec<;>intro U
 focus
  rw[aaL U] at f
  simp(disch:=omega)only[↓wr,seval,wq,E,hF,X,aq]
  refine⟨by omega,by simp[u];omega,?_⟩
  have Y:¬ b=N:=s.Ng 2 1 rfl rfl (by decide)
  have F:=((s.at 1 (by simp)).put (es':=aR ((fu a l).set x.n.st l.length)) (by simp) (by simp[u]))
  rw[<-f] at F
  have A:(H2.set N (.arr 1 (aR (fu a (l++[x.n]))))) q=.map (cW vM m2) p:=by
   have:=R3 s i (aa6 _ (abP ..))
   simp[View.set,Ne.symm this,i]
  rw[hlen,show (aR (fu a l)).set x.n.st [gi (l.length:Int)]=aR (fu a (l++[x.n])) by rw[f];exact acp.symm]
  simp only[abV,abW] at F
  generalize View.set H2 N (.arr 1 (aR (fu a (l++[x.n]))))=H3 at F A ⊢
  replace F:=F.perm (.swap _ _ _)
  simp only[aaI Y]
 rotate_left
 focus
  rw[aaI U] at f
  simp(disch:=omega)only[↓wr,seval,wq]
  rw[<-f] at s
  have F:=s
  have A:=i
  clear s i
  generalize H2=H3 at F A ⊢
 all_goals (
  have Z:=F.is 2 rfl (by simp)
  simp(disch:=omega)only[↓wr,seval,wq,Z,P,Q]
  intro n1 d
  have bl:¬ b=n1:=by rintro rfl;rw[Z] at d;simp at d
  have ar:¬ q=n1:=by rintro rfl;rw[A] at d;simp at d
  have o4:=F.fresh (o:=.arr 5 [[gi x.n.st,gi x.n.it.aB,gi x.n.it.dot,x.a,x.b]]) d
  simp(disch:=omega)only[↓wr,seval,wq,bE]
  refine dC o4 O (by unfold aF;simp;omega) (by unfold aF;simp;omega) ?_
  intro u5 H5 o5 l5
  have a1:=o5.is 2 rfl (by simp)
  have a6:H5 q=.map (cW vM m2) p:=l5.map (o4.own 0 rfl) (by simp[View.set,ar,A])
  have cu:=(o5.own 0 rfl).cells
  have ku:=(o5.own 0 rfl).dU
  simp(disch:=omega)only[↓wr,seval,wq,a1,cu,ku]
  have o6:=((o5.at 2 (by simp)).put (es':=[tK g a q u5 (.sl N 0 a.length 1)]) rfl rfl)
  have a7:(H5.set b (.arr 8 [tK g a q u5 (.sl N 0 a.length 1)])) q=.map (cW vM m2) p:=by
   simp[View.set,Ne.symm T,a6]
  simp only[abV,abW] at o6
  refine⟨q,u5,.sl N 0 a.length 1,S++[x],m2,p,?_,a7,M,r,by rw[aa8,w.is];rfl,λy C=>?_⟩
  .rw[aa8]
   exact o6.perm (List.Perm.trans (.swap _ _ _) (.cons _ (.swap _ _ _)))
  .rcases aa0.1 C with C | C
   .exact w.ok y C
   .simp at C;subst C;exact hx)
theorem cq.two {H:View} {q:Nat} {v1 v2 t1 t2:V} (b:H q=.arr 1 [[v1],[v2]]) (h1:cq H v1 t1) (c:cq H v2 t2):cq H (.sl q 0 2 1) (.aZ [[t1],[t2]]):=by
 rintro h rfl
 refine .sl q 0 2 1 1 [[v1],[v2]] [[t1],[t2]] b (by simp) rfl (λi hi=>?_) (λi j hi a=>?_)
 .match i,hi with
  | 0,_=>rfl
  | 1,_=>rfl
 .match i,hi with
  | 0,_ =>
   have:j=0:=by simp at a;omega
   subst this
   exact h1 h rfl
  | 1,_ =>
   have:j=0:=by simp at a;omega
   subst this
   exact c h rfl
theorem uP (x y:List Int) (a:x.length+y.length<=1000000):cd aa 68 [.aZ [[encI x],[encI y]]] (encI (x++y)):=by
 have:=RG [x,y] (by simp;omega) (by simp)
 simpa using this
theorem eD.Wy {g:aj} {a:List ba} (b:eD g a) (d:a.length<=300):∀s∈a,aI s.cF/\∀e∈s.cF,bp e.sym/\bp e.to:=λs c=>⟨by have:=b.ok.cF s c;unfold aI;omega,λe he=>by
 have h1:=b.ok.sym s c e he
 have f:=b.ok.to s c e he
 unfold bp;omega⟩
theorem fL.up {H:View} {b:Nat} {g:aj} {a:List ba} {l:List bL} {B B':Nat} {K:List ew} (h:fL H b g a l B K) (f:B<=B'):fL H b g a l B' K:=by
 obtain⟨q,us,d,S,m,c,w⟩:=h
 exact⟨q,us,d,S,m,c,w.own,w.map,w.born,λk=>by
  obtain⟨n,h1,i,e⟩:=w.seen k
  exact⟨n,h1,by omega,e⟩,w.is,w.ok⟩
theorem fL.fresh {H:View} {b:Nat} {g:aj} {a:List ba} {l:List bL} {B:Nat} {K:List ew} (h:fL H b g a l B K) {n:Nat} (d:H n=.dead) {o:cr} : fL (H.set n o) b g a l B K:=by
 obtain⟨q,us,e,S,m,c,w⟩:=h
 refine⟨q,us,e,S,m,c,w.own.fresh d,?_,w.born,w.seen,w.is,w.ok⟩
 have:¬ q=n:=by rintro rfl;have:=w.map;rw[d] at this;simp at this
 simp[View.set,this,w.map]
theorem fL.stay {H H':View} {b:Nat} {g:aj} {a:List ba} {l:List bL} {B:Nat} {K:List ew} (h:fL H b g a l B K) (hk:∀id,H id≠.dead->H' id=H id):fL H' b g a l B K:=by
 obtain⟨q,us,d,S,m,c,w⟩:=h
 exact⟨q,us,d,S,m,c,w.own.stay hk,by rw[hk q (by rw[w.map];simp)];exact w.map,w.born,w.seen,w.is,w.ok⟩
theorem Gf {α:Type} {x y z e:α} {K:List α} : (x::y::z::e::K).Perm (e::x::y::z::K):=acR (l₁:=[x,y,z])
theorem fL.drop {H:View} {b:Nat} {g:aj} {a:List ba} {l:List bL} {B:Nat} {e:ew} {K:List ew} (h:fL H b g a l B (e::K)):fL H b g a l B K:=by
 obtain⟨q,us,d,S,m,c,w⟩:=h
 exact⟨q,us,d,S,m,c,(w.own.perm Gf).tail,w.map,w.born,w.seen,w.is,w.ok⟩
theorem fL.add {H:View} {b:Nat} {g:aj} {a:List ba} {l:List bL} {B:Nat} {K:List ew} (h:fL H b g a l B K) {H':View} {u:V} {sz:Nat} {es:List (List V)} (e:aQ H' u sz es) (d:ct H H' u):fL H' b g a l B ((u,sz,es)::K):=by
 obtain⟨q,us,f,S,m,c,w⟩:=h
 exact⟨q,us,f,S,m,c,(w.own.G3 e d).perm Gf.symm,by rw[(d q (by rw[w.map];simp)).1];exact w.map,w.born,w.seen,w.is,w.ok⟩
theorem fL.box {H:View} {b:Nat} {g:aj} {a:List ba} {l:List bL} {B:Nat} {K:List ew} (h:fL H b g a l B K):∃q us d,H b=.arr 8 [tK g a q us d]:=by
 obtain⟨q,us,d,S,m,c,w⟩:=h
 exact⟨q,us,d,w.own.is 2 rfl (by simp)⟩
def nJ:SC:=
 ai [ag [aS 66 .lss 65 64],bQ 66 (.exit 0),.block 1 (ai [ag [af 67 65,aK 68 3 63 65,aU 69 3 68,((some 10),.op (.alloc [(.val (.int .i64 0)),(.emp 1),(.val (.int .i64 0))])),af 9 67,cz 3 10 69],ag [aw 70 0 10,au 71 70,af 72 5,((some 73),.op (.arith .sub (.val (.val (.int .i64 (-1)))) (.tmp 72))),aS 74 .eql 71 73],aX 74 (ag [af 75 0,aw 76 0 3,aw 77 0 76,au 78 77,af 79 9,((some 80),.op (.build [(.val (.int .i64 0)),(.val (.int .i64 0))] [(0,1,(.tmp 79))])),((some 81),.op (.build [(.val (.int .i64 0)),(.val (.int .i64 0)),(.val (.int .i64 0))] [(0,1,(.tmp 78)),(1,2,(.tmp 80))])),aw 82 3 3,au 83 82,af 84 4,((some 85),.op (.slice 1 (.tmp 84) (some (.val (.val (.int .i64 1)))) none)),aw 86 4 3,au 87 86,((some 88),.op (.bO 2 1 [(.emp 1)] [(0,(.tmp 85)),(1,(.tmp 87))])),((some 89),.qj (.val (.fn 68 [] [])) [(.tmp 88)]),((some 90),.op (.build [(.val (.int .i64 0)),(.val (.int .i64 0)),(.val (.int .i64 0)),(.emp 1),(.emp 1)] [(0,3,(.tmp 81)),(3,1,(.tmp 83)),(4,1,(.tmp 89))])),aV 91 125 [75,90]])]),ag [aH 92 .add 65 1,af 65 92]]
def py:SF:=⟨ai [ag [cg 3 1],ag [af 11 0,aw 12 0 3,aw 13 1 12,aU 14 2 13,aV 15 127 [11,14],af 4 15],ai [ag [af 16 4,aM 17 16,aH 18 .eql 17 0],aX 18 (.ret)],ag [af 19 4,((some 20),.op (.idx 1 (.tmp 19) (.val (.val (.int .i64 0))))),au 21 20,af 5 21],ag [af 23 0,fO 24 23,aw 25 4 24,au 26 25,aw 27 0 3,aw 28 0 27,au 29 28,af 30 4,((some 31),.op (.slice 1 (.tmp 30) none (some (.val (.val (.int .i64 1)))))),aV 32 193 [26,29,31],af 22 32,du 33 0 22,du 34 1 22,af 6 33,af 7 34],ag [aw 35 0 3,aw 36 1 35,aw 37 0 36,au 38 37,aw 39 0 3,aw 40 1 39,aw 41 1 40,au 42 41,aH 43 .add 42 1,((some 44),.op (.build [(.val (.int .i64 0)),(.val (.int .i64 0))] [(0,1,(.tmp 38)),(1,1,(.tmp 43))])),((some 8),.op (.alloc [(.val (.int .i64 0)),(.val (.int .i64 0))])),cz 2 8 44],ag [af 45 0,af 46 6,aU 47 2 8,((some 48),.op (.build [(.val (.int .i64 0)),(.val (.int .i64 0)),(.val (.int .i64 0))] [(0,1,(.tmp 46)),(1,2,(.tmp 47))])),aw 49 3 3,au 50 49,af 51 4,((some 52),.op (.slice 1 (.tmp 51) none (some (.val (.val (.int .i64 1)))))),((some 53),.op (.bO 2 1 [(.emp 1)] [(0,(.tmp 50)),(1,(.tmp 52))])),((some 54),.qj (.val (.fn 68 [] [])) [(.tmp 53)]),aw 55 4 3,au 56 55,((some 57),.op (.build [(.val (.int .i64 0)),(.val (.int .i64 0)),(.val (.int .i64 0)),(.emp 1),(.emp 1)] [(0,3,(.tmp 48)),(3,1,(.tmp 54)),(4,1,(.tmp 56))])),aV 58 125 [45,57]],ag [af 59 0,fO 60 59,aw 61 0 60,aw 62 2 61,au 63 62,aM 64 63,aT 65 0],bS 0 nJ],
 [],93⟩
theorem vP:aJ aa 126 [3,200054,200089]=some py:=by kernel_rfl
theorem UT (g:aj) (hg:g.Ok) (a:List ba) (D:eD g a) (h3:a.length<=300) (b:Nat) (l:List bL) (hl:jZ g a l) (s:eE) (hs:s.Ok) (i:Nat) (hi:l[i]?=some s.n) (B:Nat) (hB:B<100000000) (K:List ew) (H:View) (hW:fL H b g a l B K):
  az aa 126 [.ptr b 0 0,.agg (dI s)] H λ_ H'=>fL H' b g a (gf g a l s.n) (B+41) K:=by
 have U:=D.iX
 have hT:=U.ax;have hN:=U.av;have ck:=U.rules
 have f:=hl.nd s.n (aaV hi)
 have A:=D.has f.lt f.it
 have cA:=hl.len i s.n hi
 have cC:=(aaO.1 hi).1
 have cI:=hl.short D h3
 have cN:=f.small D
 have cu:=j9 U
 have b1:=A
 obtain⟨⟨cS,cV⟩,da,db⟩:=b1
 obtain⟨⟨E,F,dc⟩,⟨W,X,dj⟩⟩:=And.intro hs.a.dU hs.b.dU
 obtain⟨q,us,uf,hb⟩:=hW.box
 have p:=OI g (by unfold bp;omega) a q us uf b H hb s.n.it A
 simp only[bK] at p
 have G:aI a:=by unfold aI;omega
 refine az.of mixed vP ?_
 simp(disch:=omega)only[↓wr,seval,wq,py,dI,E,W]
 refine ay.cw (p.mono ?_)
 clear p
 rintro u H1 ⟨hu,Y⟩
 have ar:cE u=some (dH g s.n.it).length:=by
  rcases hu with rfl | ⟨n,x,d,rfl,_⟩
  .simp[encI,cE]
  .rfl
 have a1:(dH g s.n.it).length=(bV g s.n.it.aB).length-s.n.it.dot.toNat:=by unfold dH;simp
 simp(disch:=omega)only[↓wr,seval,wq,ar]
 apply ao.eq<;>intro he
 .simp(disch:=omega)only[↓wr,seval,wq]
  have J:(bI g s.n.it).2=false:=by
   unfold bI
   rw[aaL (by omega)]
  have:gf g a l s.n=l:=by
   unfold gf
   rw[aaI (by rw[J];simp)]
  rw[this]
  exact(hW.stay λid Z=>(Y id Z).1).up (by omega)
 obtain⟨y,J⟩:∃y,bI g s.n.it=(y,true):=by
  unfold bI
  rw[aaI (by omega)]
  exact⟨_,rfl⟩
 obtain⟨f1,f2⟩:=pa A J
 have b2:gf g a l s.n=kg g s.n y g.rules.length (iW l ⟨ji a s.n.st y,⟨s.n.it.aB,s.n.it.dot+1⟩,s.n.ah++[y],s.n.be⟩):=by
  unfold gf
  rw[J,aaL rfl]
 rw[b2]
 rw[f1] at hu ar a1
 obtain⟨s1,s2,s3,s4⟩:=D.step f.lt f.it J
 obtain⟨_,_,_,_,_,b3⟩:=D.ji s1
 have ab:dN g y=true:=vl U A J
 have b4 : -100<=y/\y<=100:=by
  unfold dN at ab
  split at ab<;>simp at ab<;>omega
 have cv:(gY g s.n.it).length<=6:=by
  have:=dY U (r:=s.n.it.aB) ⟨by omega,by omega⟩
  simp only[aaS] at a1
  omega
 obtain⟨m1,m2,m3⟩:=EX D hl (f.move D J) (by simp only[aa5,aaS,abe];omega) (by simp only;omega)
 have hle:l.length<=(iW l ⟨ji a s.n.st y,⟨s.n.it.aB,s.n.it.dot+1⟩,s.n.ah++[y],s.n.be⟩).length:=by obtain⟨t,ht⟩:=m2;rw[ht];simp
 have b5:=λk hk=>Gn D f J k _ hk m1 (by omega) (by omega)
 have ae:=VI a G (D.Wy h3) s.n.st [y] (by unfold aI;simp)
 rw[b3] at ae
 have L:=uP s.n.ah [y] (by simp;omega)
 have M:=uP (gY g s.n.it) s.n.be (by omega)
 generalize a6:gY g s.n.it=rs at *
 have al:∃N O P,(u=encI (y::rs)∨∃n,u=.sl n 0 1 1/\H1 n=.arr 1 [[gi y]])/\c8 1 u none (some (gi 1))=some (O,.none,[])/\c8 1 u (some (gi 1)) none=some (P,.none,[])/\aL O=true/\V.cells O=[O]/\aL P=true/\V.cells P=[P] /\
   (∀H' e1 e2 e3,bw H' (e1::e2::e3::N)->cq H' O (encI [y])/\cq H' P (encI rs))/\(∀H' l B,fL H' b g a l B N->fL H' b g a l B K)/\fL H1 b g a l B N:=by
  rcases hu with rfl | ⟨n,x,d,rfl,h2,h4,h5⟩
  .refine⟨K,encI [y],encI rs,.inl rfl,?_,?_,rfl,rfl,rfl,rfl,λH' _ _ _ _=>⟨.tree (bC _),.tree (bC _)⟩,λ_ _ _ h=>h,hW.stay λid Z=>(Y id Z).1⟩
   .exact F1 (l:=y::rs) (k:=1) (by simp)
   .exact uI (l:=y::rs) (k:=1) (by simp)
  .match d,h4 with
   | 0,_ =>
    simp only[abI,List.cons.injEq] at h5
    obtain⟨rfl,rfl⟩:=h5
    refine⟨(.sl n 0 1 1,1,[[gi y]])::K,.sl n 0 1 1,.sl n 1 0 1,.inr ⟨n,rfl,h2⟩,?_,?_,rfl,rfl,rfl,rfl,λH' e1 e2 e3 ho=>?_,λ_ _ _ h=>h.drop,hW.add (.inr ⟨n,rfl,h2⟩) Y⟩
    .exact qa (sz:=1) (id:=n) (off:=0) (k:=1) (m:=1) (by omega)
    .exact qT (sz:=1) (id:=n) (off:=0) (k:=1) (m:=1) (by omega)
    .have hH:=ho.is 3 rfl (by simp)
     have t:∀e∈[[gi y]],∀v∈e,Tree v:=by intro e he v hv;simp at he;subst he;simp at hv;subst hv;exact .val _
     have r1:we H' (.sl n 0 [y].length 1) [y]:=.inr ⟨n,y,0,rfl,hH,by omega,rfl⟩
     have r2:we H' (.sl n 1 ([]:List Int).length 1) []:=.inr ⟨n,y,1,rfl,hH,by omega,rfl⟩
     exact⟨r1.kH,r2.kH⟩
   | 1,_=>simp at h5
 obtain⟨N,O,P,b7,I,a7,c1,c2,c3,c4,b8,a8,an⟩:=al
 clear hW hu
 obtain⟨q1,dm,ds,bd⟩:=an.box
 have z:∀H' l B,fL H' b g a l B N->cq H' O (encI [y])/\cq H' P (encI rs):=λH' l B h=>by
  obtain⟨q,us,uf,S,m,c,w⟩:=h
  exact b8 H' _ _ _ w.own
 have b9:eE.Ok ⟨⟨ji a s.n.st y,⟨s.n.it.aB,s.n.it.dot+1⟩,s.n.ah++[y],s.n.be⟩,encI (s.n.ah++[y]),s.b⟩:=⟨.inl rfl,hs.b⟩
 have ca:∀k:Nat,eE.Ok ⟨⟨s.n.st,⟨k,0⟩,s.n.ah,rs++s.n.be⟩,s.a,encI (rs++s.n.be)⟩:=λk=>⟨hs.a,.inl rfl⟩
 have Q:=a7
 obtain⟨u',bl⟩:∃u',u=u':=⟨u,rfl⟩
 rw[bl] at Q
 have aq:∀(x:Int) (t:Bool),zK (.bb [gi x,gb t]):=λx t=>.bb _ λi hi=>by
  match i,hi with
  | 0,_=>exact⟨_,rfl⟩
  | 1,_=>exact⟨_,rfl⟩
 have cb:∀k:Nat,k<g.rules.length->g.rules[k]?=some (b6 g k):=λk hk=>by unfold b6;exact getD_some (by simpa using hk)
 simp only[encI] at ae L M
 rcases b7 with rfl | ⟨n,rfl,cc⟩
 focus
  simp only[encI,aba] at I a7
  simp(disch:=omega)only[↓wr,seval,wq,encI,bd,I,abb]
 rotate_left
 focus
  simp(disch:=omega)only[↓wr,seval,wq,bd,cc,I]
 all_goals (
  refine ay.rY ae (by kernel_rfl) (aq _ _) ⟨.tree (ot a),.tree (.val _),(z _ _ _ an).1,trivial⟩ ?_
  simp(disch:=omega)only[↓wr,seval,wq]
  intro n8 bn
  have w2:=an.fresh (o:=.arr 2 [[gi s.n.it.aB,gi (s.n.it.dot+1)]]) bn
  simp(disch:=omega)only[↓wr,seval,wq,I,c1,c2,E,F]
  rw[set_set]
  intro n9 C
  obtain⟨cf,C⟩:=cn C cx
  obtain⟨_,C⟩:=cn C cx
  have w3:=w2.fresh (n:=n9) (o:=.arr 1 [[s.a],[O]]) (by simp[View.set,cf,C])
  try simp(disch:=omega)only[↓wr,seval,wq,dI]
  refine ay.kq L (by kernel_rfl) ⟨cq.two (by simp[View.set]) hs.a.kH (z _ _ _ w3).1,trivial⟩ ?_
  simp(disch:=omega)only[↓wr,seval,wq,W,X]
  have hm:=GL g a b l B (by omega) (by omega) _ b9 s4 N _ w3
  simp only[dI,encI] at hm
  refine ay.cw (hm.mono ?_)
  clear hm
  rintro _ H5 w5
  obtain⟨q5,dv,ea,br⟩:=w5.box
  simp(disch:=omega)only[↓wr,seval,wq,br]
  refine aW.up g.rules.length (λk T H'=>fL H' b g a (kg g s.n y k (iW l ⟨ji a s.n.st y,⟨s.n.it.aB,s.n.it.dot+1⟩,s.n.ah++[y],s.n.be⟩)) (B+1+k) N/\T 0=.ptr b 0 0/\T 3=.aP (dI s) 0/\T 4=u'/\T 5=gi y/\T 63=.aZ (g.rules.map aO)/\T 64=gi g.rules.length/\T 65=gi k)
   ⟨w5,rfl,rfl,bl,rfl,rfl,rfl,rfl⟩ ?_
  clear w2 w3 w5 br bn C
  rintro k kk T H6 bs ⟨w6,t0,t3,t4,t5,t63,t64,t65⟩
  simp(disch:=omega)only[↓wr,seval,wq,nJ,t64,t65]
  apply ao.dec<;>intro hc
  .have hR:=cb k (by omega)
   have ch:=U.left _ (aaV hR)
   generalize bx:b6 g k=R at hR ch
   simp(disch:=omega)only[↓wr,seval,wq,t5,t63,t65,aaJ,hR,aO,encI]
   intro n10 b0
   have w7:=w6.fresh (o:=.arr 3 [aO R]) b0
   apply ao.eq<;>intro e
   .simp(disch:=omega)only[↓wr,seval,wq,t0,t3,t4,Q,dI,W,X,c3,c4]
    intro n11 j
    obtain⟨cj,j⟩:=cn j cx
    obtain⟨_,j⟩:=cn j cx
    have w8:=w7.fresh (n:=n11) (o:=.arr 1 [[P],[s.b]]) (by simp[View.set,cj,j])
    rw[set_set]
    try simp(disch:=omega)only[↓wr,seval,wq,t0,t3,t4,t5,t63,t64,t65,dI]
    refine ay.kq M (by kernel_rfl) ⟨cq.two (by simp[View.set]) (z _ _ _ w8).2 hs.b.kH,trivial⟩ ?_
    simp(disch:=omega)only[↓wr,seval,wq,E,F]
    obtain⟨r1,_,_⟩:=b5 k (by omega)
    have eb:=r1.short D h3
    have hm:=GL g a b _ (B+1+k) (by omega) (by omega) _ (ca k) f.lt N _ w8
    simp only[dI,encI] at hm
    refine ay.cw (hm.mono ?_)
    clear hm
    rintro _ H9 w9
    simp(disch:=omega)only[↓wr,seval,wq,t65]
    refine aE bs (by omega) ⟨?_,t0,t3,t4,t5,t63,t64,rfl⟩
    rw[kg,aaL (by rw[bx];exact e),a6]
    exact w9
   .simp(disch:=omega)only[↓wr,seval,wq,t65]
    refine aE bs (by omega) ⟨?_,t0,t3,t4,t5,t63,t64,rfl⟩
    rw[kg,aaI (by rw[bx];exact e)]
    have w9:=w7.up (B':=B+1+(k+1)) (by omega)
    try rw[set_set]
    exact w9
  .simp(disch:=omega)only[↓wr,seval,wq]
   obtain rfl:k=g.rules.length:=by omega
   exact(a8 _ _ _ w6).up (by omega))
section
variable {P:Program} {T:Env} {H:View} {K:V->View->Prop} {w:c9 (T,H,K)} {t t1 e ty:TypeId}
theorem OK {d x:Operand} {id off len sz bytes s:Nat} {z:List V} {es xs:List (List V)} {rd:List Nat} (he:pR P t=some (sz,bytes,z)) (g:ev T d=.sl id off len sz) (h:bM H (ev T x)=some (xs,rd)) (hH:H id=.arr s es) (i:off+len<=es.length)
  (j:(xs.all λe=>e.length==sz&&e.all aL)=true) (k:(xs.take len).isEmpty=false) (hk:K (cM (xs.take len).length) (H.set id (.arr sz (eQ es off (xs.take len))))):
  jM P (.call { callee:=.builtin .copy,args:=#[d,x],argTypes:=#[t,t1] }) ty T H K w:=by
 obtain⟨e,ti,a,hi,b,m,l,f,c,rfl,rfl⟩:=lz he
 intro n _
 refine⟨cM (xs.take len).length,.fJ id (.arr ti.size (eQ es off (xs.take len))),id::rd,?_,hk⟩
 simp only[sI,cL,oper]
 simp[zt,a,g,h,cE,b,k,hH,i,c,j]
theorem UN {d x:Operand} {k:Nat} {sz bytes:Nat} {z:List V} {xs:List (List V)} {rd:List Nat} (he:pR P t=some (sz,bytes,z)) (f:ev T d=.emp k) (g:bM H (ev T x)=some (xs,rd)) (hk:K (cM 0) H):
  jM P (.call { callee:=.builtin .copy,args:=#[d,x],argTypes:=#[t,t1] }) ty T H K w:=by
 obtain⟨e,ti,a,hi,b,j,h,c,i,rfl,rfl⟩:=lz he
 intro n _
 refine⟨cM 0,.none,[],?_,hk⟩
 simp only[sI,cL,oper]
 simp[zt,a,f,g,cE,b]
end
theorem xG:∀(xs A B:List (List V)),xs.length<=B.length->eQ (A++B) A.length xs=A++xs++B.drop xs.length
 | [],A,B,_=>by simp[eQ]
 | x::r,A,[],h=>by simp at h
 | x::r,A,b::B,h=>by
  rw[eQ,List.set_append_right _ _ (aaQ _),Nat.sub_self,List.set_cons_zero]
  have:=xG r (A++[x]) B (by simpa using h)
  simpa using this
theorem Dw {id off k m:Nat} (hm:m<=k):c8 1 (.sl id off k 1) (some (gi m)) none=some (.sl id (off+m) (k-m) 1,.none,[]):=by
 simp[c8,bound,asNat,hm]
def u64 (n:Int):V:=.val (.int .u64 n)
def Su:List (FuncId × DF):=zC aa [(180,[]),(237,[])]
theorem RL:sw aa Su:=vR _ _
def Yy (n:Nat):Bool:=match uU aa Su (QD []) 180 [u64 1,u64 n] with
 | some (.bb [.val (.int .u64 a),.val (.int .u64 b)])=>a==0&&b==n
 | _=>false
theorem XF:(List.range 321).all Yy=true:=by kernel_rfl
theorem Xs {n:Nat} (h:n<=320):aC aa 180 [u64 1,u64 n] (.bb [u64 0,u64 n]):=by
 have c:=abc.1 XF n (abH.2 (by omega))
 unfold Yy at c
 split at c
 .rename_i a b he
  simp only[aaR,abJ] at c
  obtain⟨rfl,rfl⟩:=c
  exact(pT mixed RL (LF (l:=[]) (by simp)) (by intro v d;simp at d;rcases d with rfl | rfl<;>exact .val _) he).pure
 .simp at c
def gZ:SC:=
 ai [ai [ag [af 34 8,af 35 7,aM 36 35,aS 37 .lss 34 36],bQ 37 (.exit 0)],.block 1 (ag [af 38 8,af 39 7,af 40 8,((some 41),.op (.slice 1 (.tmp 39) (some (.tmp 40)) none)),af 42 7,af 43 8,((some 44),.op (.slice 1 (.tmp 42) none (some (.tmp 43)))),((some 45),.op (.old (.call { callee:=.builtin .copy,args:=#[(.tmp 41),(.tmp 44)],argTypes:=#[27,27] }) 3)),aS 46 .add 38 45,af 8 46])]
def lC:SF:=⟨ai [ag [bU 4 1],ai [ag [af 9 1,aH 10 .lss 9 0],aX 10 (.region false [⟨none,[((some 11),.op (.old (.makeInterface 9 (.const (.string ⟨#[99,97,110,110,111,116,32,98,101,32,110,101,103,97,116,105,118,101]⟩))) 20)),(none,.op (.old (.panic (.tmp 11)) 0))]⟩])],ag [af 13 0,aM 14 13,((some 15),.op (.conv .u64 (.tmp 14))),af 16 1,((some 17),.op (.conv .u64 (.tmp 16))),aV 18 180 [15,17],af 12 18,du 19 0 12,du 20 1 12,af 5 19,af 6 20],ai [.region false [⟨none,[af 21 5,((some 22),.op (.arith .gtr (.tmp 21) (.val (.val (.int .u64 0))))),af 23 22]⟩,⟨(some (23,false)),[af 24 6,((some 25),.op (.arith .gtr (.tmp 24) (.val (.val (.int .u64 9223372036854775807)))))]⟩,⟨none,[cG 26 23 25]⟩],aX 26 (.region false [⟨none,[((some 27),.op (.old (.makeInterface 9 (.const (.string ⟨#[116,104,101,32,114,101,115,117,108,116,32,111,102,32,40,108,101,110,40,120,41,32,42,32,99,111,117,110,116,41,32,111,118,101,114,102,108,111,119,115]⟩))) 20)),(none,.op (.old (.panic (.tmp 27)) 0))]⟩])],ag [af 28 6,((some 29),.op (.conv .i64 (.tmp 28))),((some 30),.op (.make 1 8 [(.val (.int .i64 0))] (.tmp 29) (.tmp 29))),af 7 30],ag [af 31 7,af 32 0,((some 33),.op (.old (.call { callee:=.builtin .copy,args:=#[(.tmp 31),(.tmp 32)],argTypes:=#[27,27] }) 3)),af 8 33],bS 0 gZ,ag [af 47 7,af 4 47],.ret],
 [.tmp 4],48⟩
theorem q8:aJ aa 115 []=some lC:=by kernel_rfl
theorem O9 (n:Nat) (v:n<=320) (m:Nat) (H:View) (hm:H m=.arr 1 [[gi (-1)]]):az aa 115 [.sl m 0 1 1,gi n] H λr H'=>aQ H' r 1 (aR (List.replicate n (-1)))/\ct H H' r:=by
 refine az.of mixed q8 ?_
 have hmul:=Xs v
 unfold u64 at hmul
 have i:IntKind.u64.wrap 1=1:=by decide
 have j:IntKind.u64.wrap (n:Int)=n:=by
  unfold IntKind.wrap
  have w:(2:Int) ^ IntKind.u64.bits=18446744073709551616:=by rfl
  have x:IntKind.u64.signed=false:=by rfl
  simp only[w,x,ab0]
  simp
  omega
 have f:IntKind.i64.wrap (n:Int)=n:=wrap64 (by omega) (by omega)
 simp(disch:=omega)only[↓wr,seval,wq,lC]
 refine ao.dec (λh=>absurd h (by omega)) (λ_=>?_)
 simp(disch:=omega)only[↓wr,seval,wq]
 rw[i,j]
 refine ay.pure hmul ?_
 simp(disch:=omega)only[↓wr,seval,wq]
 refine ao.dec (λh=>absurd h (by omega)) (λ_=>?_)
 simp(disch:=omega)only[↓wr,seval,wq,f]
 refine⟨⟨by omega,by unfold aF;omega,by unfold aF;omega⟩,λp=>?_,λp b g=>?_⟩
 .refine UN (k:=2) (sz:=1) (bytes:=8) (z:=[gi 0]) (xs:=[[gi (-1)]]) (rd:=[m]) (by kernel_rfl) (by simp(disch:=omega)only[↓wr,seval]) (by simp(disch:=omega)only[↓wr,seval];simp[bM,hm]) ?_
  simp(disch:=omega)only[↓wr,seval,wq]
  refine aW.intro (λk T H'=>H'=H/\T 7=.emp 2/\T 8=cM 0) 0 ⟨rfl,rfl,rfl⟩ ?_
  rintro k T _ ⟨rfl,t7,t8⟩
  simp(disch:=omega)only[↓wr,seval,wq,gZ,t7,t8]
  refine⟨?_,λid a=>⟨rfl,by simp[owner]⟩⟩
  rw[p];exact .nil
 have l:¬ m=b:=by rintro rfl;rw[hm] at g;simp at g
 refine OK (id:=b) (off:=0) (len:=n) (sz:=1) (bytes:=8) (z:=[gi 0]) (s:=1) (es:=List.replicate n [gi 0]) (xs:=[[gi (-1)]]) (rd:=[m]) (by kernel_rfl) (by simp(disch:=omega)only[↓wr,seval]) (by simp(disch:=omega)only[↓wr,seval];simp[bM,View.set,l,hm]) (by simp[View.set]) (by simp) (by simp[aL]) (by obtain⟨q,rfl⟩:∃q,n=q+1:=⟨n-1,by omega⟩;rfl) ?_
 rw[show ([[gi (-1)]]:List (List V)).take n=List.replicate 1 [gi (-1)] by obtain⟨q,rfl⟩:∃q,n=q+1:=⟨n-1,by omega⟩;simp,
  show eQ (List.replicate n [gi 0]) 0 (List.replicate 1 [gi (-1)])=List.replicate 1 [gi (-1)]++List.replicate (n-1) [gi 0] by
   have:=xG (List.replicate 1 [gi (-1)]) [] (List.replicate n [gi 0]) (by simp;omega)
   simpa using this,acF]
 simp(disch:=omega)only[↓wr,seval,wq]
 rw[set_set]
 refine aW.intro (λk T H'=>∃c:Nat,1<=c/\c+k=n/\H' b=.arr 1 (List.replicate c [gi (-1)]++List.replicate (n-c) [gi 0])/\(∀id,H id≠.dead->H' id=H id)/\T 7=.sl b 0 n 1/\T 8=gi c) (n-1) ⟨1,by omega,by omega,by simp[View.set],λid a=>?_,rfl,rfl⟩ ?_
 .have:¬ id=b:=by rintro rfl;exact a g
  simp[View.set,this]
 rintro k T H' ⟨c,c1,B,hH,e,t7,t8⟩
 simp(disch:=omega)only[↓wr,seval,wq,gZ,t7,t8]
 apply ao.dec<;>intro y
 .simp(disch:=omega)only[↓wr,seval,wq,t7,t8,Dw (id:=b) (off:=0) (k:=n) (m:=c) (by omega),Ds (id:=b) (off:=0) (k:=n) (m:=c) (by omega)]
  have o:bM H' (.sl b 0 c 1)=some (List.replicate c [gi (-1)],[b]):=by
   obtain⟨q,rfl⟩:∃q,c=q+1:=⟨c-1,by omega⟩
   simp only[bM,hH]
   rw[aaL (by simp)]
   simp
  obtain⟨d,t⟩:∃d,d=min (n-c) c:=⟨_,rfl⟩
  refine OK (id:=b) (off:=c) (len:=n-c) (sz:=1) (bytes:=8) (z:=[gi 0]) (s:=1) (es:=List.replicate c [gi (-1)]++List.replicate (n-c) [gi 0]) (xs:=List.replicate c [gi (-1)]) (rd:=[b]) (by kernel_rfl) (by simp(disch:=omega)only[↓wr,seval]) (by simp(disch:=omega)only[↓wr,seval];exact o) hH (by simp) (by simp[aL]) ?_ ?_
  .rw[List.take_replicate,<-t]
   obtain⟨q,A⟩:∃q,d=q+1:=⟨d-1,by omega⟩
   rw[A];rfl
  have u:=xG (List.replicate d [gi (-1)]) (List.replicate c [gi (-1)]) (List.replicate (n-c) [gi 0]) (by simp;omega)
  rw[acF] at u
  rw[List.take_replicate,<-t,u,acF]
  simp(disch:=omega)only[↓wr,seval,wq,t7]
  refine⟨n-(c+d),by omega,c+d,by omega,by omega,?_,λid a=>?_,rfl⟩
  .simp[List.drop_replicate,<-List.replicate_append_replicate,show n-c-d=n-(c+d) by omega]
  .have:¬ id=b:=by rintro rfl;exact a g
   simp[this];exact e id a
 .simp(disch:=omega)only[↓wr,seval,wq,t7]
  obtain rfl:c=n:=by omega
  refine⟨.inr ⟨b,by simp,by rw[hH];simp[aR]⟩,λid a=>⟨e id a,?_⟩⟩
  simp only[owner,ne_eq,aaK]
  rintro rfl;exact a g
section
variable {g:aj} {a:List ba}
def oS (g:aj) (l:List bL):Prop:=∀x∈l,∀s∈x.ah++x.be,dN g s=true
theorem RM (b:g.c5) {r:Int} (hr : -1<=r/\r<g.rules.length):∀s∈bV g r,dN g s=true:=by
 unfold bV
 split
 .intro s a
  simp at a
  subst a
  have:=b.lE;have:=b.start
  unfold dN
  rw[aaI (by omega)]
  simp only[aaX];omega
 .intro s a
  have c:g.rules[r.toNat]?=some (b6 g r):=by unfold b6;exact getD_some (by omega)
  exact b.sym _ (aaV c) s a
theorem J6 (a:g.c5) {x:aN} (b:cT g x):∀s∈dH g x,dN g s=true:=λs c=>RM a b.1 s (List.mem_of_mem_drop c)
theorem oS.met {l:List bL} (h:oS g l) {x:bL} (b:∀s∈x.ah++x.be,dN g s=true):oS g (iW l x):=by
 unfold iW
 split
 .exact h
 .intro y a
  rcases aa0.1 a with a | a
  .exact h y a
  .simp at a;subst a;exact b
theorem oS.Yu {x:bL} (a:∀s∈x.ah++(gY g x.it++x.be),dN g s=true) (s:Int):∀(k:Nat) (l:List bL),oS g l->oS g (kg g x s k l)
 | 0,_,h=>h
 | k+1,l,h=>by
  rw[kg]
  split
  .exact(oS.Yu a s k l h).met a
  .exact oS.Yu a s k l h
theorem oS.leave (f:eD g a) {l:List bL} (j:jZ g a l) (h:oS g l) {x:bL} (i:x∈l):oS g (gf g a l x):=by
 unfold gf
 split
 .rename_i k
  have m:bI g x.it=((bI g x.it).1,true):=by rw[<-k]
  have e:=j.nd x i
  have hH:=f.has e.lt e.it
  obtain⟨f1,_⟩:=pa hH m
  have d:=J6 f.iX hH
  rw[f1] at d
  have c:=h x i
  refine oS.Yu (λs b=>?_) _ _ _ (h.met λs b=>?_)
  .simp only[aa0] at b c
   rcases b with b | b | b
   .exact c s (.inl b)
   .exact d s (aa6 _ b)
   .exact c s (.inr b)
  .simp only[aa0,abF] at b c
   rcases b with (b | rfl) | b
   .exact c s (.inl b)
   .exact d _ (abP ..)
   .exact c s (.inr b)
 .exact h
theorem Eu (b:eD g a):∀(f i:Nat) (l:List bL),jZ g a l->oS g l->oS g (iT g a f i l)
 | 0,_,_,_,h=>h
 | f+1,i,l,c,h=>by
  rw[iT]
  cases e:l[i]? with
  | none=>exact h
  | some x=>exact Eu b f (i+1) _ (zH b c e).1 (h.leave b c (aaV e))
theorem S5 (b:eD g a):oS g (cU g a):=Eu b _ _ _ (za b) λx c s d=>by
 simp[my] at c
 subst c
 simp at d
theorem wM (a:g.c5) {s:Int} (h:dN g s=true):bp s:=by
 have:=a.ax;have:=a.av
 unfold dN at h
 unfold bp
 split at h<;>simp only[aaX] at h<;>omega
theorem AY (c:eD g a) (d:a.length<=300) {i:Nat} (hi:i<a.length):cT g (dG (cU g a) i).it/\(dG (cU g a) i).ah.length<=86100/\(dG (cU g a) i).be.length<=516600/\(dH g (dG (cU g a) i).it).length<=6 /\
  (∀s∈(dG (cU g a) i).ah,bp s)/\(∀s∈(dG (cU g a) i).ah++(dH g (dG (cU g a) i).it++(dG (cU g a) i).be),bp s):=by
 obtain⟨f1,f2,f3⟩:=DW c d hi
 obtain⟨h,_,_⟩:=zX c d
 have hH:=c.has f3.lt f3.it
 obtain⟨j,k⟩:=List.getElem?_of_mem f1
 have m:=h.len j _ k
 have b:=h.short c d
 have l:=(aaO.1 k).1
 have e:=S5 c _ f1
 have f:=J6 c.iX hH
 refine⟨hH,by omega,by omega,?_,λs b=>wM c.iX (e s (aa0.2 (.inl b))),λs b=>?_⟩
 .have:=dY c.iX hH.1
  unfold dH
  simp;omega
 .rcases aa0.1 b with b | b
  .exact wM c.iX (e s (aa0.2 (.inl b)))
  .rcases aa0.1 b with b | b
   .exact wM c.iX (f s b)
   .exact wM c.iX (e s (aa0.2 (.inr b)))
end
def wH:SC:=
 ai [ai [ag [af 21 6,af 22 5,fO 23 22,aw 24 6 23,au 25 24,aM 26 25,aS 27 .lss 21 26],bQ 27 (.exit 0)],.block 1 (ag [af 30 5,af 31 5,fO 32 31,aw 33 6 32,au 34 33,af 35 6,aK 36 5 34 35,aU 37 5 36,aV 38 126 [30,37]]),ag [af 28 6,aH 29 .add 28 1,af 6 29]]
def Az:SF:=⟨ai [ag [cg 2 0,((some 4),.op (.eR (.val (.val (.pointer none)))))],.region true [⟨none,[aU 7 4 2,af 8 1,((some 9),.op (.qW)),((some 10),.op (.bO 1 1 [(.val (.int .i64 0))] [(0,(.val (.val (.int .i64 (-1)))))])),af 11 1,aM 12 11,aV 13 115 [10,12],((some 14),.op (.build [(.emp 1),(.emp 1),(.emp 1),(.val (.int .i64 0)),(.emp 1),(.val (.map none)),(.emp 1),(.emp 1)] [(0,4,(.tmp 7)),(4,1,(.tmp 8)),(5,1,(.tmp 9)),(7,1,(.tmp 13))])),((some 15),.op (.box (.tmp 14))),af 5 15]⟩],ag [af 16 5,((some 17),.op (.build [(.val (.int .i64 0)),(.val (.int .i64 0))] [(0,1,(.val (.val (.int .i64 (-1)))))])),((some 18),.op (.build [(.val (.int .i64 0)),(.val (.int .i64 0)),(.val (.int .i64 0))] [(0,1,(.val (.val (.int .i64 0)))),(1,2,(.tmp 17))])),((some 19),.op (.build [(.val (.int .i64 0)),(.val (.int .i64 0)),(.val (.int .i64 0)),(.emp 1),(.emp 1)] [(0,3,(.tmp 18))])),aV 20 125 [16,19]],ai [ag [aT 6 0],bS 0 wH],ag [af 39 5,af 4 39],.ret],
 [.tmp 4],40⟩
theorem DJ:aJ aa 61 [2]=some Az:=by kernel_rfl
theorem Mr (a:List ba):fu a []=List.replicate a.length (-1):=by
 unfold fu
 apply List.ext_getElem?
 intro i
 rw[aaJ,abA]
 by_cases h:i<a.length
 .rw[acd h,aaL h];rfl
 .rw[abi (by simpa using h),aaI h];rfl
theorem C3 {g:aj} {a:List ba} {f i:Nat} {l:List bL} (h:l.length<=i):iT g a f i l=l:=by
 cases f with
 | zero=>rfl
 | succ f=>rw[iT,abi h]
theorem XT (g:aj) (X:g.Ok) (a:List ba) (x:eD g a) (F:a.length<=300) (H:View):
  az aa 61 [.agg (ak g),cm a] H λr H'=>∃b,r=.ptr b 0 0/\fL H' b g a (cU g a) 100000000 []:=by
 have z:=x.pos
 have G:cE (cm a)=some a.length:=by simp[cm,cE]
 have d:aL (cm a)=true/\V.cells (cm a)=[cm a]:=⟨rfl,rfl⟩
 refine az.of mixed DJ ?_
 simp(disch:=omega)only[↓wr,seval,wq,Az,ak,encS,G]
 intro o Y O A
 obtain⟨I,A⟩:=cn A (by simp)
 refine ay.Hs (O9 a.length (by omega) O _ (by simp[View.set])) ?_
 intro r P hr p
 have s:P o=.map [] 0:=by
  have e:¬ o=O:=λe=>I e.symm
  rw[(p o (by simp[View.set,e])).1]
  simp[View.set,e]
 simp(disch:=omega)only[↓wr,seval,wq,hr.cells,hr.dU,d.1,d.2]
 intro j f
 have J:¬ o=j:=by rintro rfl;rw[s] at f;simp at f
 have Q:=(((bw.nil.G3 hr p).new f 8 [tK g a o (.emp 1) r]).emp (k:=1) (sz:=5)).perm (.cons _ (.swap _ _ _))
 have R:fL (P.set j (.arr 8 [tK g a o (.emp 1) r])) j g a [] 0 []:=by
  refine⟨o,.emp 1,r,[],[],0,?_,by simp[View.set,J,s,cW],⟨by simp,by simp⟩,λk=>⟨0,rfl,aaQ _,by simp⟩,rfl,by simp⟩
  rw[Mr]
  exact Q
 try simp(disch:=omega)only[↓wr,seval,wq]
 have hm:=GL g a j [] 0 (by omega) (by simp) ⟨⟨0,⟨-1,0⟩,[],[]⟩,.emp 1,.emp 1⟩ ⟨.inr ⟨rfl,rfl⟩,.inr ⟨rfl,rfl⟩⟩ z [] _ R
 refine ay.cw (hm.mono ?_)
 rintro _ H4 U
 simp(disch:=omega)only[↓wr,seval,wq]
 refine aW.up 86101 (λi T H'=>∃(l:List bL),i<=l.length/\jZ g a l/\iT g a (90000-i) i l=cU g a/\fL H' j g a l (1+41*i) []/\T 5=.ptr j 0 0/\T 6=gi i) ⟨my,by simp,za x,rfl,U,rfl,rfl⟩ ?_
 clear U R Q hm s f hr p
 rintro i k T Z hk ⟨l,ab,h,u,K,t5,t6⟩
 obtain⟨q,us,uf,S,m,c,w⟩:=id K
 have W:=w.own.is 2 rfl (by simp)
 have L:S.length=l.length:=by rw[<-w.is,aaM]
 have M:cE us=some l.length:=by rw[(w.own.own 0 rfl).len,aaM,L]
 simp(disch:=omega)only[↓wr,seval,wq,wH,t5,t6,W,M]
 apply ao.dec<;>intro hc
 .have N:S[i]?=some (S[i]'(by omega)):=aaH (by omega)
  have B:=aaP (show i<S.length by omega)
  generalize S[i]'(by omega)=y at N B
  have v:l[i]?=some y.n:=by rw[<-w.is,aaJ,N];rfl
  obtain⟨n,C,hH⟩:=(w.own.own 0 rfl).sl (by simp;omega)
  rw[aaM] at C
  have D:(S.map dI).getD i []=dI y:=by simp[N]
  have hs:=h.short x F
  have E:=UT g X a x F j l h y (w.ok y B) i v (1+41*i) (by omega) [] Z K
  simp only[dI] at E D
  simp(disch:=omega)only[↓wr,seval,wq,t5,t6,W,C,hH,D]
  refine⟨by omega,by first | omega | (simp;omega),?_⟩
  refine ay.cw (E.mono ?_)
  rintro _ H6 w6
  simp(disch:=omega)only[↓wr,seval,wq,t5,t6]
  obtain⟨l1,⟨t,ht⟩,_⟩:=zH x h v
  refine aE hk (by omega) ⟨gf g a l y.n,by rw[ht,aa5];omega,l1,?_,w6.up (B':=1+41*(i+1)) (by omega),t5,rfl⟩
  rw[<-u,show 90000-i=90000-(i+1)+1 by omega,iT,v]
 .simp(disch:=omega)only[↓wr,seval,wq,t5]
  rw[C3 (by omega)] at u
  subst u
  have hs:=h.short x F
  exact⟨j,rfl,K.up (B':=100000000) (by omega)⟩
def jA (b:ij):List V:=[gi b.state,gi b.len,encI b.word]
def CS (x:List ij × Int):V:=.bb [.aZ (x.1.map jA),gi x.2]
def cP (g:aj) (a:List ba):Nat->List ij × Int
 | 0=>([],0)
 | i+1=>if (cP g a i).2≠0 then cP g a i else if (di g ((fj g a i).1++(fj g a i).2)).2≠0 then ([],(di g ((fj g a i).1++(fj g a i).2)).2) else ((cP g a i).1++[wY g a i],0)
def cZ (g:aj):List ij × Int:=if (cD g).2≠0 then ([],(cD g).2) else cP g (cD g).1 (cD g).1.length
theorem Cp (b:ij):∀v∈jA b,Tree v:=by
 intro v a
 simp[jA] at a
 rcases a with rfl | rfl | rfl
 .exact .val _
 .exact .val _
 .exact bC _
theorem Dq {g:aj} {a:List ba} {i:Nat} (h:(cP g a i).2≠0):∀d,cP g a (i+d)=cP g a i
 | 0=>rfl
 | d+1=>by
  have b:=Dq h d
  rw[<-abn,cP,b,aaL h]
theorem ET {g:aj} {a:List ba} {i n:Nat} (h:(cP g a i).2≠0) (hi:i<=n):cP g a n=cP g a i:=by
 have:=Dq h (n-i)
 rwa [show i+(n-i)=n by omega] at this
theorem uz {g:aj} {a:List ba}:∀i,(cP g a i).1.length<=i
 | 0=>by simp[cP]
 | i+1=>by
  have b:=uz (g:=g) (a:=a) i
  rw[cP]
  split
  .omega
  .split
   .simp
   .simp;omega
def rn:SF:=⟨ai [ag [bU 4 1,bU 5 1],ag [af 7 0,fO 8 7,aw 9 6 8,au 10 9,af 11 0,fO 12 11,aw 13 7 12,au 14 13,af 15 1,aK 16 1 14 15,au 17 16,aK 18 5 10 17,aU 19 5 18,((some 6),.op (.alloc [(.val (.int .i64 0)),(.val (.int .i64 0)),(.val (.int .i64 0)),(.emp 1),(.emp 1)])),cz 5 6 19],.region true [⟨none,[aw 20 3 6,au 21 20,af 22 0,aw 23 0 6,aw 24 1 23,aU 25 2 24,aV 26 127 [22,25],aw 27 4 6,au 28 27,((some 29),.op (.bO 2 1 [(.emp 1)] [(0,(.tmp 26)),(1,(.tmp 28))])),aV 30 68 [29],af 4 21,af 5 30]⟩],.ret],
 [.tmp 4,.tmp 5],31⟩
theorem xS:aJ aa 62 []=some rn:=by kernel_rfl
def vO:SC:=
 ai [ag [aS 28 .lss 27 26],bQ 28 (.exit 0),.block 1 (ai [ag [af 29 27,af 8 29],ag [af 31 6,af 32 8,aV 33 62 [31,32],af 30 33,du 34 0 30,du 35 1 30,af 9 34,af 10 35],.region true [⟨none,[aU 37 4 1,af 38 9,af 39 10,((some 40),.op (.bO 2 1 [(.emp 1)] [(0,(.tmp 38)),(1,(.tmp 39))])),aV 41 68 [40],aV 42 67 [37,41],af 36 42,du 43 0 36,du 44 1 36,af 11 43,af 12 44]⟩],ai [ag [af 45 12,aH 46 .neq 45 0],aX 46 (ai [ag [af 47 12,bU 2 1,af 3 47],.ret])],ag [aU 49 4 1,af 50 9,aV 51 67 [49,50],af 48 51,du 52 0 48,du 53 1 48,af 13 52,af 12 53],ai [ag [af 54 12,aH 55 .neq 54 0],aX 55 (ai [ag [af 56 12,bU 2 1,af 3 56],.ret])],ag [af 57 7,af 58 8,af 59 13,aM 60 59,af 61 11,((some 62),.op (.build [(.val (.int .i64 0)),(.val (.int .i64 0)),(.emp 1)] [(0,1,(.tmp 58)),(1,1,(.tmp 60)),(2,1,(.tmp 61))])),((some 63),.op (.bO 1 3 [(.val (.int .i64 0)),(.val (.int .i64 0)),(.emp 1)] [(0,(.tmp 62))])),fP 64 3 40 57 63,af 7 64]]),ag [aH 65 .add 27 1,af 27 65]]
def yl:SF:=⟨ai [ag [cg 1 0,bU 2 1,aT 3 0],ag [aU 15 4 1,aV 16 60 [15],af 14 16,du 17 0 14,du 18 1 14,af 4 17,af 5 18],ai [ag [af 19 5,aH 20 .neq 19 0],aX 20 (ai [ag [af 21 5,bU 2 1,af 3 21],.ret])],ag [aU 22 4 1,af 23 4,aV 24 61 [22,23],af 6 24],ag [bU 7 1],ai [ag [af 25 4,aM 26 25,aT 27 0],bS 0 vO],ag [af 66 7,af 2 66,aT 3 0],.ret],
 [.tmp 2,.tmp 3],67⟩
theorem CY:aJ aa 28 [1]=some yl:=by kernel_rfl
theorem Yl (g:aj) (hg:g.Ok) (a:List ba) (N:eD g a) (h3:a.length<=300) (b:Nat) (B:Nat) (K:List ew) (i:Nat) (hi:i<a.length) (H:View) (hW:fL H b g a (cU g a) B K):
  az aa 62 [.ptr b 0 0,gi i] H λr H'=>(∃v,D3 v (fj g a i).1/\r=.bb [v,encI (fj g a i).2])/\∀id,H id≠.dead->H' id=H id:=by
 have hf:=N.iX
 have ae:=j9 hf
 obtain⟨f1,f2,f3⟩:=DW N h3 hi
 obtain⟨p1,p2,p3,p4,_,_⟩:=AY N h3 hi
 obtain⟨k,k1,k2,k3⟩:=C8 i (cU g a) 0 ⟨_,f1,f2⟩
 rw[abx] at k1
 have O:fj g a i=((dG (cU g a) i).ah,dH g (dG (cU g a) i).it++(dG (cU g a) i).be):=rfl
 rw[O]
 obtain⟨q,us,uf,S,m,c,w⟩:=hW
 have al:S.length=(cU g a).length:=by rw[<-w.is,aaM]
 have P:=w.own.is 2 rfl (by simp)
 have Q:S[k]?=some (S[k]'(by omega)):=aaH (by omega)
 have A:=aaP (show k<S.length by omega)
 generalize S[k]'(by omega)=y at Q A
 have R:y.n=dG (cU g a) i:=by
  have:(S.map eE.n)[k]?=some y.n:=by rw[aaJ,Q];rfl
  rw[w.is,k3] at this
  simpa using this.symm
 have j:=w.ok y A
 rw[<-R] at p1 p2 p3 p4 ⊢
 obtain⟨n,C,hH⟩:=(w.own.own 0 rfl).sl (by simp;omega)
 rw[aaM] at C
 have D:(S.map dI).getD k []=dI y:=by simp[Q]
 have p:(fu a (cU g a)).length=a.length:=by simp[fu]
 obtain⟨nf,E,hF⟩:=(w.own.own 1 rfl).sl (by simp[p];omega)
 rw[aaM,p] at E
 have T:(aR (fu a (cU g a))).getD i []=[gi k]:=by
  rw[aR,aaG,aaJ,fu,aaJ,acd hi]
  simp[k1]
 obtain⟨⟨U,W,an⟩,⟨F,G,aq⟩⟩:=And.intro j.a.dU j.b.dU
 have X:=uP (dH g y.n.it) y.n.be (by omega)
 simp only[dI] at D
 refine az.of mixed xS ?_
 simp(disch:=omega)only[↓wr,seval,wq,rn,P,C,E,hF,T,hH,D,U,F]
 refine⟨hi,by rw[p];exact hi,by omega,by omega,λl s=>?_⟩
 rw[set_set]
 have Y:¬ b=l:=by rintro rfl;rw[P] at s;simp at s
 have I:(H.set l (.arr 5 [[gi y.n.st,gi y.n.it.aB,gi y.n.it.dot,y.a,y.b]])) b=.arr 8 [tK g a q us uf]:=by simp only[View.set,aaI Y,P]
 have t:(H.set l (.arr 5 [[gi y.n.st,gi y.n.it.aB,gi y.n.it.dot,y.a,y.b]])) l=.arr 5 [[gi y.n.st,gi y.n.it.aB,gi y.n.it.dot,y.a,y.b]]:=by simp only[View.set,if_true]
 have f:∀id,H id≠.dead->(H.set l (.arr 5 [[gi y.n.st,gi y.n.it.aB,gi y.n.it.dot,y.a,y.b]])) id=H id:=λid e=>by
  have:¬ id=l:=by rintro rfl;exact e s
  simp only[View.set,aaI this]
 generalize View.set H l (.arr 5 [[gi y.n.st,gi y.n.it.aB,gi y.n.it.dot,y.a,y.b]])=H1 at I t f ⊢
 have hr:=OI g (by unfold bp;omega) a q us uf b H1 I y.n.it p1
 simp only[bK] at hr
 refine ay.still hr (λr H' h id e=>(h.2 id e).1) ?_
 rintro u M ⟨hu,J⟩
 have L:aL u=true/\V.cells u=[u]:=by
  rcases hu with rfl | ⟨n,x,d,rfl,_⟩<;>exact⟨rfl,rfl⟩
 have Z:M l=.arr 5 [[gi y.n.st,gi y.n.it.aB,gi y.n.it.dot,y.a,y.b]]:=by rw[(J l (by rw[t];simp)).1];exact t
 simp(disch:=omega)only[↓wr,seval,wq,Z,L.1,L.2,F,G]
 intro n9 z
 have ab:∀ {o:cr} (id:Nat),M id≠.dead->(M.set n9 o) id=M id:=λ{o} id e=>by
  have:¬ id=n9:=by rintro rfl;exact e z
  simp only[View.set,aaI this]
 refine ay.kq X (by kernel_rfl) ⟨cq.two (by simp only[View.set,if_true]) ((hu.keep λid e=>ab id e).kH) j.b.kH,trivial⟩ ?_
 simp(disch:=omega)only[↓wr,seval,wq]
 refine⟨⟨y.a,j.a,rfl⟩,λid e=>?_⟩
 have h1:=f id e
 have h2:=(J id (by rw[h1];exact e)).1
 have e9:¬ id=n9:=by rintro rfl;rw[h2,h1] at z;exact e z
 rw[aaI e9,h2,h1]
theorem fL.app {H:View} {b:Nat} {g:aj} {a:List ba} {l:List bL} {B:Nat} {u:V} {sz:Nat} {es:List (List V)} (h:fL H b g a l B [(u,sz,es)]):aQ H u sz es/\∀u' H' es',aQ H' u' sz es'->Left H H' u u'->fL H' b g a l B [(u',sz,es')]:=by
 obtain⟨q,us,e,S,m,c,w⟩:=h
 refine⟨w.own.own 3 rfl,λu' H' es' f d=>⟨q,us,e,S,m,c,?_,d.map (w.own.own 3 rfl) w.map,w.born,w.seen,w.is,w.ok⟩⟩
 exact((w.own.perm Gf).left f d).perm Gf.symm
theorem Tz (g:aj) (m:g.Ok) (d:g.Small):aC aa 28 [.agg (ak g)] (CS (cZ g)):=by
 refine aC.of (dR g) ?_
 have O:=(Rf g m d).pure
 have z:cE (cm (cD g).1)=some (cD g).1.length:=by simp[cm,cE]
 refine az.of mixed CY ?_
 simp only[ak,encS] at O
 simp(disch:=omega)only[↓wr,seval,wq,yl,ak,encS]
 refine ay.pure O ?_
 simp(disch:=omega)only[↓wr,seval,wq]
 unfold cZ
 apply ao.ne<;>intro h
 .rw[aaL h]
  simp(disch:=omega)only[↓wr,seval,wq]
  intro A _
  exact(lL (.emp 1)).L5
 rw[aaI (by omega)]
 obtain⟨_,B,c⟩:=G9 h
 generalize (cD g).1=a at *
 have p:=XT g m a B c (λ_=>.dead)
 simp only[ak,encS] at p
 simp(disch:=omega)only[↓wr,seval,wq]
 refine ay.cw (p.mono ?_)
 rintro _ H1 ⟨b,rfl,w⟩
 simp(disch:=omega)only[↓wr,seval,wq,z]
 refine aW.up a.length (λi T H'=>∃(u:V),(cP g a i).2=0/\fL H' b g a (cU g a) 100000000 [(u,3,(cP g a i).1.map jA)]/\T 1=.aP (ak g) 0/\T 6=.ptr b 0 0/\T 7=u/\T 26=gi a.length/\T 27=gi i) ⟨.emp 1,rfl,w.add .nil .emp,rfl,rfl,rfl,rfl,rfl⟩ ?_
 clear w
 rintro i k T H hk ⟨u,he,w,t1,t6,t7,t26,t27⟩
 simp(disch:=omega)only[↓wr,seval,wq,vO,t26,t27]
 apply ao.dec<;>intro R
 .have hi:i<a.length:=by omega
  obtain⟨p1,S,p3,p4,U,W⟩:=AY B c hi
  have C:fj g a i=((dG (cU g a) i).ah,dH g (dG (cU g a) i).it++(dG (cU g a) i).be):=rfl
  have P:(fj g a i).1.length<=86100/\(fj g a i).2.length<=600000/\(∀s∈(fj g a i).1,bp s)/\(∀s∈(fj g a i).1++(fj g a i).2,bp s):=by
   rw[C]
   exact⟨S,by simp only[aa5];omega,U,W⟩
  obtain⟨P,q2,X,Y⟩:=P
  have hw:=Yl g m a B c b _ _ i hi H w
  have l:cP g a (i+1)=if (di g ((fj g a i).1++(fj g a i).2)).2≠0 then ([],(di g ((fj g a i).1++(fj g a i).2)).2) else ((cP g a i).1++[wY g a i],0):=by
   rw[cP,aaI (by rw[he];simp)]
  have D:wY g a i=⟨i,((di g (fj g a i).1).1.length:Int),(di g ((fj g a i).1++(fj g a i).2)).1⟩:=rfl
  have E:=λh=>(D2 (g:=g) (u:=(fj g a i).1) (v:=(fj g a i).2) h).1
  generalize (fj g a i).1=x at *
  generalize (fj g a i).2=y at *
  have F:=uP x y (by omega)
  have q:=(KZ g m d (x++y) (by simp;omega) Y).pure
  have r:=KZ g m d x (by omega) X
  simp only[ak,encS,DK] at q r
  have Z:=uz (g:=g) (a:=a) i
  generalize di g (x++y)=G at *
  generalize di g x=Q at *
  simp(disch:=omega)only[↓wr,seval,wq,t6,t27]
  refine ay.cw (hw.mono ?_)
  rintro _ H2 ⟨⟨v,f,rfl⟩,I⟩
  have w2:=w.stay I
  obtain⟨J,K,_⟩:=f.dU
  simp(disch:=omega)only[↓wr,seval,wq,t1,ak,encS,J,K]
  intro n9 L
  have w3:=w2.fresh (o:=.arr 1 [[v],[encI y]]) L
  try simp(disch:=omega)only[↓wr,seval,wq]
  refine ay.kq F (by kernel_rfl) ⟨cq.two (by simp only[View.set,if_true];rfl) f.kH (.tree (bC y)),trivial⟩ ?_
  simp(disch:=omega)only[↓wr,seval,wq]
  refine ay.pure q ?_
  simp(disch:=omega)only[↓wr,seval,wq]
  apply ao.ne<;>intro h1
  .rw[aaL h1] at l
   simp(disch:=omega)only[↓wr,seval,wq]
   intro A _
   rw[ET (i:=i+1) (by rw[l];exact h1) (by omega),l]
   exact(lL (.emp 1)).L5
  rw[aaI (by omega)] at l
  have h2:Q.2=0:=E (by omega)
  simp(disch:=omega)only[↓wr,seval,wq,t1,ak,encS]
  refine ay.kq r (by kernel_rfl) ⟨.tree (bW _ (cB g)),f.kH,trivial⟩ ?_
  simp(disch:=omega)only[↓wr,seval,wq]
  refine ao.ne (λh=>absurd h2 h) (λ_=>?_)
  simp(disch:=omega)only[↓wr,seval,wq,t7,encI]
  intro n10 t
  have w4:=w3.fresh (n:=n10) (o:=.arr 3 [[gi i,gi Q.1.length,encI G.1]]) t
  obtain⟨M,wk⟩:=w4.app
  simp(disch:=omega)only[↓wr,seval,wq,bE]
  refine fE (es:=(cP g a i).1.map jA) M (by simp[aL]) (by unfold aF;simp;omega) (by unfold aF;simp;omega) ?_
  intro u5 H5 o5 l5
  have w5:=wk _ _ _ o5 l5
  simp(disch:=omega)only[↓wr,seval,wq,t27]
  refine aE hk hi ⟨u5,by rw[l],?_,t1,t6,rfl,t26,rfl⟩
  rw[l,D,aa8]
  exact w5
 .obtain rfl:i=a.length:=by omega
  simp(disch:=omega)only[↓wr,seval,wq,t7]
  intro A f
  obtain⟨M,_⟩:=w.app
  have N:=cq.own M (λe he v f=>by
   obtain⟨x,_,rfl⟩:=aa4.1 he
   exact Cp x v f) A f
  unfold CS
  rw[he]
  exact .bb _ _ rfl λj hj=>by
   match j,hj with
   | 0,_=>exact N
   | 1,_=>exact .tree _ (.val _)
end
end Gv

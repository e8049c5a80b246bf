/-
  Part 6 of the proof: what the machine does and what the functions answer.
  Conditions: those that each lemma names.
-/
import Derived.Test.YtiophifnkakjgaaGreatSGzC6E
set_option linter.unusedSimpArgs false
set_option linter.unusedVariables false
set_option maxRecDepth 100000
set_option maxHeartbeats 20000000
namespace Gv
noncomputable section
open Go Go.Proofs
structure Term where
 name:ByteArray
 level:Int
 assoc:Int
structure bc where
 left:Int
 right:List Int
 prec:Int
structure aj where
 ax:List Term
 av:List ByteArray
 rules:List bc
 start:Int
instance:Inhabited Term:=⟨⟨.empty,0,0⟩⟩
instance:Inhabited bc:=⟨⟨0,[],0⟩⟩
def dg (t:Term):List V:=[gs t.name,gi t.level,gi t.assoc]
def aQ (r:bc):List V:=[gi r.left,encI r.right,gi r.prec]
def encS (l:List ByteArray):V:=.aZ (l.map λs=>[gs s])
def ak (g:aj):List V:=[.aZ (g.ax.map dg),encS g.av,.aZ (g.rules.map aQ),gi g.start]
theorem fi {α:Type} (l:List α) (f:α->List V) (h:∀x∈l,∀v∈f x,Tree v):Tree (.aZ (l.map f)):=by
 refine .aZ _ λi j hi a=>?_
 simp only[aaU] at hi
 have e:(l.map f).getD i []=f l[i]:=by simp[aaP,hi]
 rw[e] at a ⊢
 have b:(f l[i]).getD j .any=(f l[i])[j]:=by simp[aaP,a]
 rw[b]
 exact h _ (aaW _) _ (aaW _)
theorem bW (cs:List V) (h:∀v∈cs,Tree v):Tree (.agg cs):=by
 refine .agg _ λi hi=>?_
 have a:cs.getD i .any=cs[i]:=by simp[aaP,hi]
 rw[a];exact h _ (aaW _)
theorem By (l:List ByteArray):Tree (encS l):=fi _ _ λx _ v a=>by simp at a;subst a;exact .val _
theorem wD (t:Term):∀v∈dg t,Tree v:=by intro v a;simp[dg] at a;rcases a with rfl | rfl | rfl<;>exact .val _
theorem gn (r:bc):∀v∈aQ r,Tree v:=by
 intro v a;simp[aQ] at a;rcases a with rfl | rfl | rfl
 .exact .val _
 .exact bC _
 .exact .val _
theorem cx (g:aj):∀v∈ak g,Tree v:=by
 intro v a;simp[ak] at a;rcases a with rfl | rfl | rfl | rfl
 .exact fi _ _ λx _=>wD x
 .exact By _
 .exact fi _ _ λx _=>gn x
 .exact .val _
def bm (x:Int):Prop:=-9223372036854775808<=x/\x<=9223372036854775807
structure aj.Ok (g:aj):Prop where
 ax:aI g.ax
 av:aI g.av
 rules:aI g.rules
 start:bm g.start
 term:∀t∈g.ax,bm t.level/\bm t.assoc
 aB:∀r∈g.rules,bm r.left/\bm r.prec/\aI r.right/\∀x∈r.right,bm x
def dP (g:aj) (s:Int):Bool:=if 0<=s then decide (s<g.ax.length) else decide (-1-s<g.av.length)
def ue:SF:=⟨ai [ag [cm 2 0,bh 4 false],ai [ag [af 5 1,aH 6 .geq 5 0],aX 6 (ai [ag [af 7 1,aw 8 0 2,au 9 8,aN 10 9,aS 11 .lss 7 10,af 4 11],.ret])],ag [af 12 1,((some 13),.op (.arith .sub (.val (.val (.int .i64 (-1)))) (.tmp 12))),aw 14 1 2,au 15 14,aN 16 15,aS 17 .lss 13 16,af 4 17],.ret],
 [.tmp 4],18⟩
theorem Ae:aJ aa 74 [2]=some ue:=by kernel_rfl
theorem YT (g:aj) (s:Int) (a:bm s) (H:View):ay aa 74 [.agg (ak g),gi s] H λr H'=>r=gb (dP g s)/\H'=H:=by
 refine ay.of mixed Ae ?_
 obtain⟨h1,b⟩:=a
 simp(disch:=omega)only[↓wr,seval,wq,ue,ak,encS]
 apply ao.dec<;>intro h
 .simp(disch:=omega)only[↓wr,seval,wq]
  simp[dP,show (0:Int)<=s from h]
 .simp(disch:=omega)only[↓wr,seval,wq]
  simp[dP,show ¬ (0:Int)<=s from h]
theorem RV (g:aj) (s:Int) (b:bm s):aC aa 74 [.agg (ak g),gi s] (gb (dP g s)):=
 aC.of (by
  intro v a;simp at a
  rcases a with rfl | rfl
  .exact bW _ (cx g)
  .exact .val _) ((YT g s b _).mono λr H' h c _=>by rw[h.1];exact .tree _ (.val _))
def qD (g:aj):Bool:=decide (40<g.ax.length)||decide (40<g.av.length)||decide (60<g.rules.length)||g.rules.any λr=>decide (20<r.right.length)
def pK:SC:=
 ai [ai [ag [af 20 3,aw 21 2 1,au 22 21,aN 23 22,aS 24 .lss 20 23],bP 24 (.exit 0)],.block 1 (ai [ag [aw 27 2 1,au 28 27,af 29 3,aL 30 3 28 29,aw 31 1 30,au 32 31,aN 33 32,aH 34 .gtr 33 20],aX 34 (ai [ag [bh 2 true],.ret])]),ag [af 25 3,aH 26 .add 25 1,af 3 26]]
def rv:SF:=⟨ai [ag [cm 1 0,bh 2 false],ai [.region false [⟨none,[aw 4 0 1,au 5 4,aN 6 5,aH 7 .gtr 6 40,af 8 7]⟩,⟨(some (8,false)),[aw 9 1 1,au 10 9,aN 11 10,aH 12 .gtr 11 40]⟩,⟨none,[cE 13 8 12,af 14 13]⟩,⟨(some (14,false)),[aw 15 2 1,au 16 15,aN 17 16,aH 18 .gtr 17 60]⟩,⟨none,[cE 19 14 18]⟩],aX 19 (ai [ag [bh 2 true],.ret])],ai [ag [aT 3 0],bQ 0 pK],ag [bh 2 false],.ret],
 [.tmp 2],35⟩
theorem xo:aJ aa 14 [1]=some rv:=by kernel_rfl
theorem UC (g:aj) (H:View):ay aa 14 [.agg (ak g)] H λr H'=>r=gb (qD g)/\H'=H:=by
 refine ay.of mixed xo ?_
 simp(disch:=omega)only[↓wr,seval,wq,rv,ak,encS]
 apply ao.dec<;>intro h1
 .simp(disch:=omega)only[↓wr,seval,wq]
  simp[qD,show 40<g.ax.length by omega]
 .simp(disch:=omega)only[↓wr,seval,wq]
  apply ao.dec<;>intro d
  .simp(disch:=omega)only[↓wr,seval,wq]
   simp[qD,show 40<g.av.length by omega]
  .simp(disch:=omega)only[↓wr,seval,wq]
   apply ao.dec<;>intro f
   .simp(disch:=omega)only[↓wr,seval,wq]
    simp[qD,show 60<g.rules.length by omega]
   .simp(disch:=omega)only[↓wr,seval,wq]
    refine aW.intro (λk T H'=>∃i:Nat,i+k=g.rules.length/\(∀r∈g.rules.take i,¬ 20<r.right.length)/\T 1=.aR (ak g) 0/\T 3=gi i/\H'=H) g.rules.length ?_ ?_
    .exact⟨0,by omega,by simp,rfl,rfl,rfl⟩
    .rintro k T H' ⟨i,hk,hi,a,b,rfl⟩
     simp(disch:=omega)only[↓wr,seval,wq,pK,a,b,ak]
     apply ao.dec<;>intro h
     .have c:g.rules[i]?=some (g.rules[i]'(by omega)):=aaQ (by omega)
      simp(disch:=omega)only[↓wr,seval,wq,a,b,ak,aQ,encI,aaS,c,aa2]
      apply ao.dec<;>intro j
      .simp(disch:=omega)only[↓wr,seval,wq]
       have:g.rules.any (λr=>decide (20<r.right.length))=true:=by
        simp only[ab8,aa5]
        exact⟨g.rules[i]'(by omega),aaW _,by omega⟩
       simp[qD,this]
      .simp(disch:=omega)only[↓wr,seval,wq,a,b]
       refine⟨k-1,by omega,i+1,by omega,?_,rfl,rfl⟩
       intro r hr
       rw[aa9,c] at hr
       simp only[Option.toList_some,aa7,abN] at hr
       rcases hr with hr | rfl
       .exact hi r hr
       .omega
     .simp(disch:=omega)only[↓wr,seval,wq,a,b]
      have e:i=g.rules.length:=by omega
      rw[aa6 (by omega)] at hi
      have:g.rules.any (λr=>decide (20<r.right.length))=false:=by
       simp only[ac6,aa5];exact hi
      simp only[qD,this]
      simp;omega
def fA (l:List Int) (is:List Bool) (ax:Bool):Bool:=l.all λs=>if 0<=s then ax else is.getD (-1-s).toNat false
def rq:SC:=
 ai [ai [ag [af 8 7,af 9 0,aN 10 9,aS 11 .lss 8 10],bP 11 (.exit 0)],.block 1 (ai [.region false [⟨none,[af 14 0,af 15 7,aL 16 1 14 15,au 17 16,aH 18 .geq 17 0,af 19 18]⟩,⟨(some (19,true)),[af 20 2,cR 21 20]⟩,⟨none,[dO 22 19 21,af 23 22]⟩,⟨(some (23,false)),[af 24 0,af 25 7,aL 26 1 24 25,au 27 26,aH 28 .lss 27 0,af 29 28]⟩,⟨(some (29,true)),[af 30 1,af 31 0,af 32 7,aL 33 1 31 32,au 34 33,((some 35),.op (.arith .sub (.val (.val (.int .i64 (-1)))) (.tmp 34))),aL 36 1 30 35,au 37 36,cR 38 37]⟩,⟨(some (23,false)),[dO 39 29 38]⟩,⟨none,[cE 40 23 39]⟩],aX 40 (ai [ag [bh 6 false],.ret])]),ag [af 12 7,aH 13 .add 12 1,af 7 13]]
def uo:SF:=⟨ai [ag [bh 6 false],ai [ag [aT 7 0],bQ 0 rq],ag [bh 6 true],.ret],
 [.tmp 6],41⟩
theorem Ak:aJ aa 95 []=some uo:=by kernel_rfl
theorem Yt (l:List Int) (is:List Bool) (t:Bool) (p:aI l) (q:∀s∈l,bm s/\(s<0->-1-s<is.length)) (H:View):
  ay aa 95 [encI l,bX is,gb t] H λr H'=>r=gb (fA l is t)/\H'=H:=by
 refine ay.of mixed Ak ?_
 unfold aI at p
 simp(disch:=omega)only[↓wr,seval,wq,uo]
 refine aW.intro (λk T H'=>∃i:Nat,i+k=l.length/\fA (l.take i) is t=true/\T 0=encI l/\T 1=bX is/\T 2=gb t/\T 7=gi i/\H'=H) l.length ?_ ?_
 .exact⟨0,by omega,by simp[fA],rfl,rfl,rfl,rfl,rfl⟩
 .rintro k T H' ⟨i,hk,hi,d,h1,f,g,rfl⟩
  simp(disch:=omega)only[↓wr,seval,wq,rq,d,h1,f,g,encI]
  apply ao.dec<;>intro u
  .have h:l[i]?=some (l[i]'(by omega)):=aaQ (by omega)
   have hm:l[i]'(by omega)∈l:=aaW _
   generalize l[i]'(by omega)=s at h hm
   obtain⟨⟨v,w⟩,x⟩:=q s hm
   have a:fA (l.take (i+1)) is t=(if 0<=s then t else is.getD (-1-s).toNat false):=by
    rw[aa9,h]
    simp only[fA,Option.toList_some,ac3,ab0,List.all_nil,Bool.and_true] at hi ⊢
    rw[hi,aby]
   have c:(if 0<=s then t else is.getD (-1-s).toNat false)=false->fA l is t=false:=by
    intro j
    simp only[fA,acS]
    exact⟨s,hm,by simpa using j⟩
   simp(disch:=omega)only[↓wr,seval,wq,d,h1,f,g,encI,aaS,h,aa2]
   apply ao.dec<;>intro n
   .rw[aaT (show 0<=s from n)] at a c
    cases t with
    | true =>
     simp(disch:=omega)only[↓wr,seval,wq,d,h1,f,g,encI,aaS,h,aa2]
     refine ao.dec (λm=>absurd m (by omega)) (λ_=>?_)
     simp(disch:=omega)only[↓wr,seval,wq,d,h1,f,g,encI,bX,aaS,h,aa2]
     exact⟨k-1,by omega,i+1,by omega,a,rfl⟩
    | false =>
     simp(disch:=omega)only[↓wr,seval,wq,d,h1,f,g,encI,aaS,h,aa2]
     rw[c rfl]
   .rw[aaR (show ¬ 0<=s from n)] at a c
    simp(disch:=omega)only[↓wr,seval,wq,d,h1,f,g,encI,aaS,h,aa2]
    refine ao.dec (λm=>?_) (λm=>absurd m (by omega))
    have j:is[(-1-s).toNat]?=some (is[(-1-s).toNat]'(by omega)):=aaQ (by omega)
    have o:is.getD (-1-s).toNat false=is[(-1-s).toNat]'(by omega):=by simp[aaP,j]
    rw[o] at a c
    generalize is[(-1-s).toNat]'(by omega)=b at j a c
    simp(disch:=omega)only[↓wr,seval,wq,d,h1,f,g,encI,bX,aaS,h,j,aa2]
    cases b with
    | true =>
     simp(disch:=omega)only[↓wr,seval,wq,d,h1,f,g,encI,bX,aaS,h,j,aa2]
     exact⟨k-1,by omega,i+1,by omega,a,rfl⟩
    | false =>
     simp(disch:=omega)only[↓wr,seval,wq,d,h1,f,g,encI,bX,aaS,h,j,aa2]
     rw[c rfl]
  .simp(disch:=omega)only[↓wr,seval,wq,d,h1,f,g]
   have e:i=l.length:=by omega
   rw[aa6 (by omega)] at hi
   rw[hi]
abbrev gy (x:Int):V:=.val (.int .u8 x)
def x9 (c:Int):Bool:=(decide (97<=c)&&decide (c<=122))||(decide (65<=c)&&decide (c<=90))||c==95
def qn (c:Int):Bool:=x9 c||(decide (48<=c)&&decide (c<=57))||c==46
def rj:SF:=⟨ai [ag [bh 2 false],.region false [⟨none,[af 3 0,((some 4),.op (.arith .geq (.tmp 3) (.val (.val (.int .u8 97))))),af 5 4]⟩,⟨(some (5,true)),[af 6 0,((some 7),.op (.arith .leq (.tmp 6) (.val (.val (.int .u8 122)))))]⟩,⟨none,[dO 8 5 7,af 9 8]⟩,⟨(some (9,false)),[af 10 0,((some 11),.op (.arith .geq (.tmp 10) (.val (.val (.int .u8 65))))),af 12 11]⟩,⟨(some (12,true)),[af 13 0,((some 14),.op (.arith .leq (.tmp 13) (.val (.val (.int .u8 90)))))]⟩,⟨(some (9,false)),[dO 15 12 14]⟩,⟨none,[cE 16 9 15,af 17 16]⟩,⟨(some (17,false)),[af 18 0,((some 19),.op (.arith .eql (.tmp 18) (.val (.val (.int .u8 95)))))]⟩,⟨none,[cE 20 17 19,af 2 20]⟩],.ret],
 [.tmp 2],21⟩
theorem xD:aJ aa 233 []=some rj:=by kernel_rfl
def rE:SF:=⟨ai [ag [bh 2 false],.region false [⟨none,[af 3 0,aV 4 233 [3],af 5 4]⟩,⟨(some (5,false)),[af 6 0,((some 7),.op (.arith .geq (.tmp 6) (.val (.val (.int .u8 48))))),af 8 7]⟩,⟨(some (8,true)),[af 9 0,((some 10),.op (.arith .leq (.tmp 9) (.val (.val (.int .u8 57)))))]⟩,⟨(some (5,false)),[dO 11 8 10]⟩,⟨none,[cE 12 5 11,af 13 12]⟩,⟨(some (13,false)),[af 14 0,((some 15),.op (.arith .eql (.tmp 14) (.val (.val (.int .u8 46)))))]⟩,⟨none,[cE 16 13 15,af 2 16]⟩],.ret],
 [.tmp 2],17⟩
theorem xu:aJ aa 234 []=some rE:=by kernel_rfl
theorem Vh (c:Int) (H:View):ay aa 233 [gy c] H λr H'=>r=gb (x9 c)/\H'=H:=by
 refine ay.of mixed xD ?_
 repeat' (first | ((first|apply ao.dec|apply ao.eq|apply ao.ne|apply ao.split)<;>intro)|(simp(disch:=omega)only[↓wr,seval,wq,rj]))
 all_goals (congr 2;simp only[x9];grind)
theorem JU (c:Int):aC aa 233 [gy c] (gb (x9 c)):=
 aC.of (by intro v a;simp at a;subst a;exact .val _) ((Vh c _).mono λr H' h b _=>by rw[h.1];exact .tree _ (.val _))
theorem Wv (c:Int) (H:View):ay aa 234 [gy c] H λr H'=>r=gb (qn c)/\H'=H:=by
 refine ay.of mixed xu ?_
 repeat' (first | ((first|apply ao.dec|apply ao.eq|apply ao.ne|apply ao.split)<;>intro)|(simp(disch:=omega)only[↓wr,seval,wq,rE]))
 refine az.pure (JU c) ?_
 repeat' (first | ((first|apply ao.dec|apply ao.eq|apply ao.ne|apply ao.split)<;>intro)|(simp(disch:=omega)only[↓wr,seval,wq]))
 all_goals (congr 2;simp only[qn];grind)
theorem UE (c:Int):aC aa 234 [gy c] (gb (qn c)):=
 aC.of (by intro v a;simp at a;subst a;exact .val _) ((Wv c _).mono λr H' h b _=>by rw[h.1];exact .tree _ (.val _))
def iM (l:List Int):Bool:=decide (0<l.length)&&decide (l.length<=20)&&(match l with | c::_=>x9 c | []=>false)&&l.all qn
def qy:SC:=
 ai [ai [ag [af 18 3,af 19 0,((some 20),.op (.sd (.tmp 19))),aS 21 .lss 18 20],bP 21 (.exit 0)],.block 1 (ai [ag [af 24 0,af 25 3,((some 26),.op (.jv (.tmp 24) (.tmp 25))),aV 27 234 [26],cR 28 27],aX 28 (ai [ag [bh 2 false],.ret])]),ag [af 22 3,aH 23 .add 22 1,af 3 23]]
def tO:SF:=⟨ai [ag [bh 2 false],ai [.region false [⟨none,[af 4 0,((some 5),.op (.sd (.tmp 4))),aH 6 .eql 5 0,af 7 6]⟩,⟨(some (7,false)),[af 8 0,((some 9),.op (.sd (.tmp 8))),aH 10 .gtr 9 20]⟩,⟨none,[cE 11 7 10,af 12 11]⟩,⟨(some (12,false)),[af 13 0,((some 14),.op (.jv (.tmp 13) (.val (.val (.int .i64 0))))),aV 15 233 [14],cR 16 15]⟩,⟨none,[cE 17 12 16]⟩],aX 17 (ai [ag [bh 2 false],.ret])],ai [ag [aT 3 0],bQ 0 qy],ag [bh 2 true],.ret],
 [.tmp 2],29⟩
theorem yS:aJ aa 172 []=some tO:=by kernel_rfl
theorem TQ (s:ByteArray) (H:View):ay aa 172 [gs s] H λr H'=>r=gb (iM (gK s))/\H'=H:=by
 refine ay.of mixed yS ?_
 repeat' (first | ((first|apply ao.dec|apply ao.eq|apply ao.ne|apply ao.split)<;>intro)|(simp(disch:=omega)only[↓wr,seval,wq,tO,fP]))
 .rename_i h
  congr 2;simp[iM,show (gK s).length=0 by omega]
 .rename_i h
  congr 2;simp[iM,show ¬ (gK s).length<=20 by omega]
 .rename_i h1 g
  cases a:gK s with
  | nil=>simp[a] at h1
  | cons c l =>
   repeat' (first | ((first|apply ao.dec|apply ao.eq|apply ao.ne|apply ao.split)<;>intro)|(simp(disch:=omega)only[↓wr,seval,wq,a,abi,fP]))
   refine az.pure (JU c) ?_
   repeat' (first | ((first|apply ao.dec|apply ao.eq|apply ao.ne|apply ao.split)<;>intro)|(simp(disch:=omega)only[↓wr,seval,wq,a,abi,fP]))
   .rename_i j
    refine aW.intro (λk T H'=>∃i:Nat,i+k=(c::l).length/\((c::l).take i).all qn=true/\T 0=gs s/\T 3=gi i/\H'=H) (c::l).length ?_ ?_
    .exact⟨0,by omega,by simp,rfl,rfl,rfl⟩
    .rintro k T H' ⟨i,hk,hi,b,e,rfl⟩
     rw[a] at h1 g
     simp(disch:=omega)only[↓wr,seval,wq,qy,b,e,fP,a]
     apply ao.dec<;>intro m
     .simp only[aa3] at m hk g
      have f:(c::l)[i]?=some ((c::l)[i]'(by simp;omega)):=aaQ (by simp;omega)
      have hm:(c::l)[i]'(by simp;omega)∈c::l:=aaW _
      generalize (c::l)[i]'(by simp;omega)=d at f hm
      simp(disch:=omega)only[↓wr,seval,wq,b,e,fP,a,f]
      refine az.pure (UE d) ?_
      repeat' (first | ((first|apply ao.dec|apply ao.eq|apply ao.ne|apply ao.split)<;>intro)|(simp(disch:=omega)only[↓wr,seval,wq,b,e,fP,a,f]))
      .rename_i n
       refine⟨k-1,by omega,i+1,by omega,?_,rfl⟩
       rw[aa9,f]
       simp only[Option.toList_some,ac3,hi,ab0,n,List.all_nil,Bool.and_self]
      .rename_i n
       congr 2
       have:(c::l).all qn=false:=by
        rw[acS];exact⟨d,hm,by simp[n]⟩
       simp only[iM,this,acr]
     .simp(disch:=omega)only[↓wr,seval,wq,b,e]
      simp only[aa3] at m hk g
      rw[aa6 (by simp;omega)] at hi
      congr 2
      simp only[iM,hi,aa3]
      simp[j];omega
   .rename_i j
    congr 2;simp[iM,j]
def pe:List Int->Bool
 | [a,b,c]=>a==39&&c==39&&decide (32<=b)&&decide (b<=126)&&b != 39&&b != 92
 | [a,b,c,d]=>a==39&&d==39&&b==92&&(c==110||c==116||c==92||c==39)
 | _=>false
theorem V1 {l:List Int} (a:l.length≠3) (b:l.length≠4):pe l=false:=by
 match l,a,b with
 | [],_,_=>rfl
 | [_],_,_=>rfl
 | [_,_],_,_=>rfl
 | [_,_,_],a,_=>exact absurd rfl a
 | [_,_,_,_],_,b=>exact absurd rfl b
 | _::_::_::_::_::_,_,_=>rfl
theorem ZW {α:Type} {l:List α} (h:l.length=3):∃a b c,l=[a,b,c]:=by
 match l,h with
 | [a,b,c],_=>exact⟨a,b,c,rfl⟩
theorem ZV {α:Type} {l:List α} (h:l.length=4):∃a b c d,l=[a,b,c,d]:=by
 match l,h with
 | [a,b,c,d],_=>exact⟨a,b,c,d,rfl⟩
def pI:SF:=⟨ai [ag [bh 2 false],ai [ag [af 3 0,((some 4),.op (.sd (.tmp 3))),aH 5 .eql 4 3],aX 5 (ai [.region false [⟨none,[af 6 0,((some 7),.op (.jv (.tmp 6) (.val (.val (.int .i64 0))))),((some 8),.op (.arith .eql (.tmp 7) (.val (.val (.int .u8 39))))),af 9 8]⟩,⟨(some (9,true)),[af 10 0,((some 11),.op (.jv (.tmp 10) (.val (.val (.int .i64 2))))),((some 12),.op (.arith .eql (.tmp 11) (.val (.val (.int .u8 39)))))]⟩,⟨none,[dO 13 9 12,af 14 13]⟩,⟨(some (14,true)),[af 15 0,((some 16),.op (.jv (.tmp 15) (.val (.val (.int .i64 1))))),((some 17),.op (.arith .geq (.tmp 16) (.val (.val (.int .u8 32)))))]⟩,⟨none,[dO 18 14 17,af 19 18]⟩,⟨(some (19,true)),[af 20 0,((some 21),.op (.jv (.tmp 20) (.val (.val (.int .i64 1))))),((some 22),.op (.arith .leq (.tmp 21) (.val (.val (.int .u8 126)))))]⟩,⟨none,[dO 23 19 22,af 24 23]⟩,⟨(some (24,true)),[af 25 0,((some 26),.op (.jv (.tmp 25) (.val (.val (.int .i64 1))))),((some 27),.op (.arith .neq (.tmp 26) (.val (.val (.int .u8 39)))))]⟩,⟨none,[dO 28 24 27,af 29 28]⟩,⟨(some (29,true)),[af 30 0,((some 31),.op (.jv (.tmp 30) (.val (.val (.int .i64 1))))),((some 32),.op (.arith .neq (.tmp 31) (.val (.val (.int .u8 92)))))]⟩,⟨none,[dO 33 29 32,af 2 33]⟩],.ret])],.region false [⟨none,[af 34 0,((some 35),.op (.sd (.tmp 34))),aH 36 .eql 35 4,af 37 36]⟩,⟨(some (37,true)),[af 38 0,((some 39),.op (.jv (.tmp 38) (.val (.val (.int .i64 0))))),((some 40),.op (.arith .eql (.tmp 39) (.val (.val (.int .u8 39)))))]⟩,⟨none,[dO 41 37 40,af 42 41]⟩,⟨(some (42,true)),[af 43 0,((some 44),.op (.jv (.tmp 43) (.val (.val (.int .i64 3))))),((some 45),.op (.arith .eql (.tmp 44) (.val (.val (.int .u8 39)))))]⟩,⟨none,[dO 46 42 45,af 47 46]⟩,⟨(some (47,true)),[af 48 0,((some 49),.op (.jv (.tmp 48) (.val (.val (.int .i64 1))))),((some 50),.op (.arith .eql (.tmp 49) (.val (.val (.int .u8 92)))))]⟩,⟨none,[dO 51 47 50,af 52 51]⟩,⟨(some (52,true)),[af 53 0,((some 54),.op (.jv (.tmp 53) (.val (.val (.int .i64 2))))),((some 55),.op (.arith .eql (.tmp 54) (.val (.val (.int .u8 110))))),af 56 55]⟩,⟨(some (56,false)),[af 57 0,((some 58),.op (.jv (.tmp 57) (.val (.val (.int .i64 2))))),((some 59),.op (.arith .eql (.tmp 58) (.val (.val (.int .u8 116)))))]⟩,⟨(some (52,true)),[cE 60 56 59,af 61 60]⟩,⟨(some (61,false)),[af 62 0,((some 63),.op (.jv (.tmp 62) (.val (.val (.int .i64 2))))),((some 64),.op (.arith .eql (.tmp 63) (.val (.val (.int .u8 92)))))]⟩,⟨(some (52,true)),[cE 65 61 64,af 66 65]⟩,⟨(some (66,false)),[af 67 0,((some 68),.op (.jv (.tmp 67) (.val (.val (.int .i64 2))))),((some 69),.op (.arith .eql (.tmp 68) (.val (.val (.int .u8 39)))))]⟩,⟨(some (52,true)),[cE 70 66 69]⟩,⟨none,[dO 71 52 70,af 2 71]⟩],.ret],
 [.tmp 2],72⟩
theorem vE:aJ aa 232 []=some pI:=by kernel_rfl
def rh:SF:=⟨ai [ag [bh 2 false],.region false [⟨none,[af 3 0,aV 4 172 [3],af 5 4]⟩,⟨(some (5,false)),[af 6 0,aV 7 232 [6]]⟩,⟨none,[cE 8 5 7,af 2 8]⟩],.ret],
 [.tmp 2],9⟩
theorem xA:aJ aa 169 []=some rh:=by kernel_rfl
theorem Vc (s:ByteArray) (H:View):ay aa 232 [gs s] H λr H'=>r=gb (pe (gK s))/\H'=H:=by
 refine ay.of mixed vE ?_
 simp(disch:=omega)only[↓wr,seval,wq,pI,fP]
 apply ao.eq<;>intro h
 .obtain⟨a,b,c,e⟩:=ZW (l:=gK s) (by omega)
  repeat' (first | ((first|apply ao.dec|apply ao.eq|apply ao.ne|apply ao.split)<;>intro)|(simp(disch:=omega)only[↓wr,seval,wq,e,abi,abB]))
  all_goals (congr 2;simp only[pe];grind)
 .simp(disch:=omega)only[↓wr,seval,wq,fP]
  apply ao.eq<;>intro f
  .obtain⟨a,b,c,d,e⟩:=ZV (l:=gK s) (by omega)
   repeat' (first | ((first|apply ao.dec|apply ao.eq|apply ao.ne|apply ao.split)<;>intro)|(simp(disch:=omega)only[↓wr,seval,wq,e,abi,abB]))
   all_goals (congr 2;simp only[pe];grind)
  .repeat' (first | ((first|apply ao.dec|apply ao.eq|apply ao.ne|apply ao.split)<;>intro)|(simp(disch:=omega)only[↓wr,seval,wq,fP]))
   rw[V1 (by omega) (by omega)]
theorem rW (s:ByteArray):∀v∈[gs s],Tree v:=by intro v a;simp at a;subst a;exact .val _
theorem Jj (s:ByteArray):aC aa 172 [gs s] (gb (iM (gK s))):=
 aC.of (rW s) ((TQ s _).mono λr H' h a _=>by rw[h.1];exact .tree _ (.val _))
theorem VO (s:ByteArray):aC aa 232 [gs s] (gb (pe (gK s))):=
 aC.of (rW s) ((Vc s _).mono λr H' h a _=>by rw[h.1];exact .tree _ (.val _))
def s9 (l:List Int):Bool:=iM l||pe l
theorem QE (s:ByteArray) (H:View):ay aa 169 [gs s] H λr H'=>r=gb (s9 (gK s))/\H'=H:=by
 refine ay.of mixed xA ?_
 simp(disch:=omega)only[↓wr,seval,wq,rh]
 refine az.pure (Jj s) ?_
 repeat' (first | ((first|apply ao.dec|apply ao.eq|apply ao.ne|apply ao.split)<;>intro)|(simp(disch:=omega)only[↓wr,seval,wq]))
 .rename_i h;simp[s9,h]
 .rename_i h
  refine az.pure (VO s) ?_
  repeat' (first | ((first|apply ao.dec|apply ao.eq|apply ao.ne|apply ao.split)<;>intro)|(simp(disch:=omega)only[↓wr,seval,wq]))
  simp[s9,h]
theorem Qz (s:ByteArray):aC aa 169 [gs s] (gb (s9 (gK s))):=
 aC.of (rW s) ((QE s _).mono λr H' h a _=>by rw[h.1];exact .tree _ (.val _))
def qL (s:ByteArray):List ByteArray->Int->Int
 | [],_=>-1
 | x::l,i=>if jX x s=true then i else qL s l (i+1)
def uE (g:aj) (s:ByteArray):Int:=qL s (g.ax.map Term.name) 0
def Hj (g:aj) (s:ByteArray):Int:=qL s g.av 0
theorem eM {α:Type} {l:List α} {i:Nat} (h:i<l.length):l.drop i=l[i]::l.drop (i+1):=abA h
theorem Lp (g:aj) (s:ByteArray):∀v∈[V.agg (ak g),gs s],Tree v:=by
 intro v a;simp at a
 rcases a with rfl | rfl
 .exact bW _ (cx g)
 .exact .val _
theorem dS (g:aj):∀v∈[V.agg (ak g)],Tree v:=by intro v a;simp at a;subst a;exact bW _ (cx g)
theorem KE (g:aj) (x:Int):∀v∈[V.agg (ak g),gi x],Tree v:=by
 intro v a;simp at a
 rcases a with rfl | rfl
 .exact bW _ (cx g)
 .exact .val _
theorem aC.val {P:Program} {f:FuncId} {vs:List V} {x:Value} (a:∀v∈vs,Tree v) (h:∀H,ay P f vs H λr _=>r=.val x):aC P f vs (.val x):=
 aC.of a ((h _).mono λr H' e b _=>by rw[e];exact .tree _ (.val _))
def qf:SC:=
 ai [ai [ag [af 6 5,aw 7 0 2,au 8 7,aN 9 8,aS 10 .lss 6 9],bP 10 (.exit 0)],.block 1 (ai [ag [aw 13 0 2,au 14 13,af 15 5,aL 16 3 14 15,aw 17 0 16,au 18 17,af 19 1,((some 20),.op (.Ay .eql (.tmp 18) (.tmp 19)))],aX 20 (ai [ag [af 21 5,af 4 21],.ret])]),ag [af 11 5,aH 12 .add 11 1,af 5 12]]
def th:SF:=⟨ai [ag [cm 2 0,aT 4 0],ai [ag [aT 5 0],bQ 0 qf],ag [aT 4 (-1)],.ret],
 [.tmp 4],22⟩
theorem yf:aJ aa 170 [2]=some th:=by kernel_rfl
def rm:SC:=
 ai [ai [ag [af 6 5,aw 7 1 2,au 8 7,aN 9 8,aS 10 .lss 6 9],bP 10 (.exit 0)],.block 1 (ai [ag [aw 13 1 2,au 14 13,af 15 5,aL 16 1 14 15,au 17 16,af 18 1,((some 19),.op (.Ay .eql (.tmp 17) (.tmp 18)))],aX 19 (ai [ag [af 20 5,af 4 20],.ret])]),ag [af 11 5,aH 12 .add 11 1,af 5 12]]
def um:SF:=⟨ai [ag [cm 2 0,aT 4 0],ai [ag [aT 5 0],bQ 0 rm],ag [aT 4 (-1)],.ret],
 [.tmp 4],21⟩
theorem Ag:aJ aa 150 [2]=some um:=by kernel_rfl
def pt:SC:=
 ai [ai [ag [af 8 6,aw 9 0 2,au 10 9,aN 11 10,aS 12 .lss 8 11],bP 12 (.exit 0)],.block 1 (ai [.region false [⟨none,[aw 15 0 2,au 16 15,af 17 6,aL 18 3 16 17,aU 19 3 18,((some 7),.op (.alloc [(.val (.string ⟨#[]⟩)),(.val (.int .i64 0)),(.val (.int .i64 0))])),cz 3 7 19]⟩],ai [ag [aw 20 1 7,au 21 20,af 22 1,aS 23 .neq 21 22],aX 23 (.exit 1)],ai [.region false [⟨none,[af 24 5,aH 25 .neq 24 0,af 26 25]⟩,⟨(some (26,true)),[af 27 5,aw 28 2 7,au 29 28,aS 30 .neq 27 29]⟩,⟨none,[dO 31 26 30]⟩],aX 31 (ai [ag [bh 4 false],.ret])],ag [aw 32 2 7,au 33 32,af 5 33]]),ag [af 13 6,aH 14 .add 13 1,af 6 14]]
def rO:SF:=⟨ai [ag [cm 2 0,bh 4 false],ag [aT 5 0],ai [ag [aT 6 0],bQ 0 pt],ag [af 34 5,aH 35 .neq 34 0,af 4 35],.ret],
 [.tmp 4],36⟩
theorem xX:aJ aa 171 [2]=some rO:=by kernel_rfl
theorem TK (g:aj) (e:g.Ok) (s:ByteArray) (H:View):ay aa 170 [.agg (ak g),gs s] H λr _=>r=gi (uE g s):=by
 refine ay.of mixed yf ?_
 have h:g.ax.length<4611686018427387904:=e.ax
 simp(disch:=omega)only[↓wr,seval,wq,th,ak,encS]
 refine aW.intro (λk T _=>∃i:Nat,i+k=g.ax.length/\qL s ((g.ax.drop i).map Term.name) i=uE g s/\T 1=gs s/\T 2=.aR (ak g) 0/\T 5=gi i) g.ax.length ?_ ?_
 .exact⟨0,by omega,rfl,rfl,rfl,rfl⟩
 .rintro k T H' ⟨i,hk,hi,h1,a,b⟩
  simp(disch:=omega)only[↓wr,seval,wq,qf,h1,a,b,ak]
  apply ao.dec<;>intro f
  .have c:g.ax[i]?=some (g.ax[i]'(by omega)):=aaQ (by omega)
   rw[eM (show i<g.ax.length by omega)] at hi
   generalize g.ax[i]'(by omega)=t at c hi
   simp only[abl,qL] at hi
   simp(disch:=omega)only[↓wr,seval,wq,h1,a,b,ak,dg,aaS,c,aa2]
   apply ao.split<;>intro d
   .rw[aaT d] at hi
    simp(disch:=omega)only[↓wr,seval,wq,h1,a,b]
    rw[hi]
   .rw[d,aaR (by simp)] at hi
    simp(disch:=omega)only[↓wr,seval,wq,h1,a,b]
    exact⟨k-1,by omega,i+1,by omega,by push_cast;exact hi,rfl,rfl⟩
  .rw[abg (by omega)] at hi
   simp only[acq,qL] at hi
   simp(disch:=omega)only[↓wr,seval,wq,h1,a,b]
   rw[hi]
theorem Jl (g:aj) (a:g.Ok) (s:ByteArray):aC aa 170 [.agg (ak g),gs s] (gi (uE g s)):=aC.val (Lp g s) (TK g a s)
theorem V5 (g:aj) (e:g.Ok) (s:ByteArray) (H:View):ay aa 150 [.agg (ak g),gs s] H λr _=>r=gi (Hj g s):=by
 refine ay.of mixed Ag ?_
 have h:g.av.length<4611686018427387904:=e.av
 simp(disch:=omega)only[↓wr,seval,wq,um,ak,encS]
 refine aW.intro (λk T _=>∃i:Nat,i+k=g.av.length/\qL s (g.av.drop i) i=Hj g s/\T 1=gs s/\T 2=.aR (ak g) 0/\T 5=gi i) g.av.length ?_ ?_
 .exact⟨0,by omega,rfl,rfl,rfl,rfl⟩
 .rintro k T H' ⟨i,hk,hi,h1,a,b⟩
  simp(disch:=omega)only[↓wr,seval,wq,rm,h1,a,b,ak,encS]
  apply ao.dec<;>intro f
  .have c:g.av[i]?=some (g.av[i]'(by omega)):=aaQ (by omega)
   rw[eM (show i<g.av.length by omega)] at hi
   generalize g.av[i]'(by omega)=t at c hi
   simp only[abl,qL] at hi
   simp(disch:=omega)only[↓wr,seval,wq,h1,a,b,ak,encS,aaS,c,aa2]
   apply ao.split<;>intro d
   .rw[aaT d] at hi
    simp(disch:=omega)only[↓wr,seval,wq,h1,a,b]
    rw[hi]
   .rw[d,aaR (by simp)] at hi
    simp(disch:=omega)only[↓wr,seval,wq,h1,a,b]
    exact⟨k-1,by omega,i+1,by omega,by push_cast;exact hi,rfl,rfl⟩
  .rw[abg (by omega)] at hi
   simp only[acq,qL] at hi
   simp(disch:=omega)only[↓wr,seval,wq,h1,a,b]
   rw[hi]
theorem U6 (g:aj) (a:g.Ok) (s:ByteArray):aC aa 150 [.agg (ak g),gs s] (gi (Hj g s)):=aC.val (Lp g s) (V5 g a s)
def kM (n:Int):List Term->Int->Option Int
 | [],Iz=>some Iz
 | t::r,Iz=>if t.level=n then (if Iz≠0/\Iz≠t.assoc then none else kM n r t.assoc) else kM n r Iz
def iY (l:List Term) (n:Int):Bool:=match kM n l 0 with
 | some w=>w != 0
 | none=>false
theorem Qa (g:aj) (l:g.Ok) (n:Int) (H:View):ay aa 171 [.agg (ak g),gi n] H λr _=>r=gb (iY g.ax n):=by
 refine ay.of mixed xX ?_
 have p:g.ax.length<4611686018427387904:=l.ax
 simp(disch:=omega)only[↓wr,seval,wq,rO,ak,encS]
 refine aW.intro (λk T _=>∃(i:Nat) (w:Int),i+k=g.ax.length/\kM n (g.ax.drop i) w=kM n g.ax 0/\T 1=gi n/\T 2=.aR (ak g) 0/\T 5=gi w/\T 6=gi i) g.ax.length ?_ ?_
 .exact⟨0,0,by omega,rfl,rfl,rfl,rfl,rfl⟩
 .rintro k T H' ⟨i,w,hk,hi,h1,c,d,f⟩
  simp(disch:=omega)only[↓wr,seval,wq,pt,h1,c,d,f,ak]
  apply ao.dec<;>intro o
  .have h:g.ax[i]?=some (g.ax[i]'(by omega)):=aaQ (by omega)
   rw[eM (show i<g.ax.length by omega)] at hi
   generalize g.ax[i]'(by omega)=t at h hi
   simp only[kM] at hi
   simp(disch:=omega)only[↓wr,seval,wq,h1,c,d,f,ak,dg,aaS,h,aa2]
   intro m hm
   try simp(disch:=omega)only[↓wr,seval,wq,h1,c,d,f]
   apply ao.ne<;>intro j
   .rw[aaR j] at hi
    simp(disch:=omega)only[↓wr,seval,wq,h1,c,d,f]
    exact⟨k-1,by omega,i+1,w,by omega,hi,by first | rfl | exact⟨rfl,rfl⟩ | exact⟨rfl,rfl,rfl⟩⟩
   .rw[aaT j] at hi
    repeat' (first | ((first|apply ao.dec|apply ao.eq|apply ao.ne|apply ao.split)<;>intro)|(simp(disch:=omega)only[↓wr,seval,wq,h1,c,d,f]))
    .rename_i a b
     rw[aaT ⟨a,b⟩] at hi
     simp only[iY,<-hi]
    .rename_i a b
     rw[aaR (λe=>e.2 b)] at hi
     exact⟨k-1,by omega,i+1,_,by omega,hi,by first | rfl | exact⟨rfl,rfl⟩ | exact⟨rfl,rfl,rfl⟩⟩
    .rename_i a
     rw[aaR (λe=>e.1 a)] at hi
     exact⟨k-1,by omega,i+1,_,by omega,hi,by first | rfl | exact⟨rfl,rfl⟩ | exact⟨rfl,rfl,rfl⟩⟩
  .rw[abg (by omega)] at hi
   simp only[kM] at hi
   simp(disch:=omega)only[↓wr,seval,wq,h1,c,d,f]
   simp only[iY,<-hi]
theorem PT (g:aj) (a:g.Ok) (n:Int):aC aa 171 [.agg (ak g),gi n] (gb (iY g.ax n)):=aC.val (KE g n) (Qa g a n)
def xj (g:aj) (t:Term):Bool:=(List.range t.level.toNat).all λk=>iY g.ax ((k:Int)+1)
def ng (g:aj) (i:Int) (t:Term):Bool:=
 s9 (gK t.name)&&(uE g t.name==i)&&decide (0<=t.level)&&decide (t.level<=24)&&decide (0<=t.assoc)&&decide (t.assoc<=3)&&((t.level==0)==(t.assoc==0))&&xj g t
def pX (g:aj):List Term->Int->Bool
 | [],_=>true
 | t::r,i=>ng g i t&&pX g r (i+1)
def na (g:aj):Bool:=decide (g.ax.length<=24)&&pX g g.ax 0
def pr:SC:=
 ai [ai [ag [af 63 5,aw 64 1 4,au 65 64,aS 66 .leq 63 65],bP 66 (.exit 2)],.block 3 (ai [ag [aU 69 4 1,af 70 5,aV 71 171 [69,70],cR 72 71],aX 72 (ai [ag [bh 2 false],.ret])]),ag [af 67 5,aH 68 .add 67 1,af 5 68]]
def pP:SC:=
 ai [ai [ag [af 10 3,aw 11 0 1,au 12 11,aN 13 12,aS 14 .lss 10 13],bP 14 (.exit 0)],.block 1 (ai [.region false [⟨none,[aw 17 0 1,au 18 17,af 19 3,aL 20 3 18 19,aU 21 3 20,((some 4),.op (.alloc [(.val (.string ⟨#[]⟩)),(.val (.int .i64 0)),(.val (.int .i64 0))])),cz 3 4 21]⟩],ai [.region false [⟨none,[aw 22 0 4,au 23 22,aV 24 169 [23],cR 25 24,af 26 25]⟩,⟨(some (26,false)),[aU 27 4 1,aw 28 0 4,au 29 28,aV 30 170 [27,29],af 31 3,aS 32 .neq 30 31]⟩,⟨none,[cE 33 26 32,af 34 33]⟩,⟨(some (34,false)),[aw 35 1 4,au 36 35,aH 37 .lss 36 0]⟩,⟨none,[cE 38 34 37,af 39 38]⟩,⟨(some (39,false)),[aw 40 1 4,au 41 40,aH 42 .gtr 41 24]⟩,⟨none,[cE 43 39 42,af 44 43]⟩,⟨(some (44,false)),[aw 45 2 4,au 46 45,aH 47 .lss 46 0]⟩,⟨none,[cE 48 44 47,af 49 48]⟩,⟨(some (49,false)),[aw 50 2 4,au 51 50,aH 52 .gtr 51 3]⟩,⟨none,[cE 53 49 52,af 54 53]⟩,⟨(some (54,false)),[aw 55 1 4,au 56 55,aH 57 .eql 56 0,aw 58 2 4,au 59 58,aH 60 .eql 59 0,((some 61),.op (.beq false (.tmp 57) (.tmp 60)))]⟩,⟨none,[cE 62 54 61]⟩],aX 62 (ai [ag [bh 2 false],.ret])],ag [aT 5 1],bQ 2 pr]),ag [af 15 3,aH 16 .add 15 1,af 3 16]]
def rf:SF:=⟨ai [ag [cm 1 0,bh 2 false],ai [ag [aw 6 0 1,au 7 6,aN 8 7,aH 9 .gtr 8 24],aX 9 (ai [ag [bh 2 false],.ret])],ai [ag [aT 3 0],bQ 0 pP],ag [bh 2 true],.ret],
 [.tmp 2],73⟩
theorem xN:aJ aa 104 [1]=some rf:=by kernel_rfl
def ql:SC:=
 ai [ai [ag [af 14 3,aw 15 1 1,au 16 15,aN 17 16,aS 18 .lss 14 17],bP 18 (.exit 0)],.block 1 (ai [.region false [⟨none,[aw 21 1 1,au 22 21,af 23 3,aL 24 1 22 23,au 25 24,aV 26 172 [25],cR 27 26,af 28 27]⟩,⟨(some (28,false)),[aU 29 4 1,aw 30 1 1,au 31 30,af 32 3,aL 33 1 31 32,au 34 33,aV 35 150 [29,34],af 36 3,aS 37 .neq 35 36]⟩,⟨none,[cE 38 28 37,af 39 38]⟩,⟨(some (39,false)),[aU 40 4 1,aw 41 1 1,au 42 41,af 43 3,aL 44 1 42 43,au 45 44,aV 46 170 [40,45],aH 47 .geq 46 0]⟩,⟨none,[cE 48 39 47]⟩],aX 48 (ai [ag [bh 2 false],.ret])]),ag [af 19 3,aH 20 .add 19 1,af 3 20]]
def sW:SF:=⟨ai [ag [cm 1 0,bh 2 false],ai [.region false [⟨none,[aw 4 1 1,au 5 4,aN 6 5,aH 7 .lss 6 1,af 8 7]⟩,⟨(some (8,false)),[aw 9 1 1,au 10 9,aN 11 10,aH 12 .gtr 11 16]⟩,⟨none,[cE 13 8 12]⟩],aX 13 (ai [ag [bh 2 false],.ret])],ai [ag [aT 3 0],bQ 0 ql],ag [bh 2 true],.ret],
 [.tmp 2],49⟩
theorem yD:aJ aa 105 [1]=some sW:=by kernel_rfl
def qQ:SC:=
 ai [ai [ag [af 23 5,aw 24 1 3,au 25 24,aN 26 25,aS 27 .lss 23 26],bP 27 (.exit 0)],.block 1 (ai [.region false [⟨none,[aU 30 4 2,aw 31 1 3,au 32 31,af 33 5,aL 34 1 32 33,au 35 34,aV 36 74 [30,35],cR 37 36,af 38 37]⟩,⟨(some (38,false)),[aw 39 1 3,au 40 39,af 41 5,aL 42 1 40 41,au 43 42,aH 44 .geq 43 0,af 45 44]⟩,⟨(some (45,true)),[aw 46 2 3,au 47 46,aH 48 .eql 47 (-1)]⟩,⟨(some (38,false)),[dO 49 45 48]⟩,⟨none,[cE 50 38 49]⟩],aX 50 (ai [ag [bh 4 false],.ret])]),ag [af 28 5,aH 29 .add 28 1,af 5 29]]
def tN:SF:=⟨ai [ag [cm 2 0,cm 3 1,bh 4 false],ai [.region false [⟨none,[aw 6 1 3,au 7 6,aN 8 7,aH 9 .gtr 8 6,af 10 9]⟩,⟨(some (10,false)),[aw 11 2 3,au 12 11,aH 13 .lss 12 (-1)]⟩,⟨none,[cE 14 10 13,af 15 14]⟩,⟨(some (15,false)),[aw 16 2 3,au 17 16,aw 18 0 2,au 19 18,aN 20 19,aS 21 .geq 17 20]⟩,⟨none,[cE 22 15 21]⟩],aX 22 (ai [ag [bh 4 false],.ret])],ai [ag [aT 5 0],bQ 0 qQ],ag [bh 4 true],.ret],
 [.tmp 4],51⟩
theorem yY:aJ aa 106 [2,3]=some tN:=by kernel_rfl
def pT:SC:=
 ai [ai [ag [af 39 4,aw 40 2 1,au 41 40,aN 42 41,aS 43 .lss 39 42],bP 43 (.exit 0)],.block 1 (ai [ag [aw 46 2 1,au 47 46,af 48 4,aL 49 3 47 48,aU 50 3 49,((some 5),.op (.alloc [(.val (.int .i64 0)),(.emp 1),(.val (.int .i64 0))])),cz 3 5 50],ai [.region false [⟨none,[aw 51 0 5,au 52 51,aH 53 .lss 52 0,af 54 53]⟩,⟨(some (54,false)),[aw 55 0 5,au 56 55,af 57 3,aH 58 .add 57 1,aS 59 .gtr 56 58]⟩,⟨none,[cE 60 54 59,af 61 60]⟩,⟨(some (61,false)),[aU 62 4 1,aU 63 3 5,aV 64 106 [62,63],cR 65 64]⟩,⟨none,[cE 66 61 65]⟩],aX 66 (ai [ag [bh 2 false],.ret])],ag [aw 67 0 5,au 68 67,af 69 3,aS 70 .gtr 68 69],aX 70 (ag [aw 71 0 5,au 72 71,af 3 72])]),ag [af 44 4,aH 45 .add 44 1,af 4 45]]
def rz:SF:=⟨ai [ag [cm 1 0,bh 2 false],ai [.region false [⟨none,[aU 6 4 1,aV 7 104 [6],cR 8 7,af 9 8]⟩,⟨(some (9,false)),[aU 10 4 1,aV 11 105 [10],cR 12 11]⟩,⟨none,[cE 13 9 12,af 14 13]⟩,⟨(some (14,false)),[aw 15 2 1,au 16 15,aN 17 16,aH 18 .lss 17 1]⟩,⟨none,[cE 19 14 18,af 20 19]⟩,⟨(some (20,false)),[aw 21 2 1,au 22 21,aN 23 22,aH 24 .gtr 23 40]⟩,⟨none,[cE 25 20 24,af 26 25]⟩,⟨(some (26,false)),[aw 27 3 1,au 28 27,aH 29 .lss 28 0]⟩,⟨none,[cE 30 26 29,af 31 30]⟩,⟨(some (31,false)),[aw 32 3 1,au 33 32,aw 34 1 1,au 35 34,aN 36 35,aS 37 .geq 33 36]⟩,⟨none,[cE 38 31 37]⟩],aX 38 (ai [ag [bh 2 false],.ret])],ag [aT 3 (-1)],ai [ag [aT 4 0],bQ 0 pT],ag [af 73 3,aw 74 1 1,au 75 74,aN 76 75,aH 77 .sub 76 1,aS 78 .eql 73 77,af 2 78],.ret],
 [.tmp 2],79⟩
theorem xB:aJ aa 50 [1]=some rz:=by kernel_rfl
theorem Qf (g:aj) (p:g.Ok) (H:View):ay aa 104 [.agg (ak g)] H λr _=>r=gb (na g):=by
 refine ay.of mixed xN ?_
 simp(disch:=omega)only[↓wr,seval,wq,rf,ak,encS]
 apply ao.dec<;>intro h
 .simp(disch:=omega)only[↓wr,seval,wq]
  simp[na,show ¬ g.ax.length<=24 by omega]
 .have hle:g.ax.length<=24:=by omega
  simp(disch:=omega)only[↓wr,seval,wq]
  refine aW.intro (λk T _=>∃i:Nat,i+k=g.ax.length/\pX g (g.ax.drop i) i=pX g g.ax 0/\T 1=.aR (ak g) 0/\T 3=gi i) g.ax.length ?_ ?_
  .exact⟨0,by omega,rfl,rfl,rfl⟩
  .rintro k T H' ⟨i,hk,hi,h1,d⟩
   simp(disch:=omega)only[↓wr,seval,wq,pP,h1,d,ak]
   apply ao.dec<;>intro z
   .have f:g.ax[i]?=some (g.ax[i]'(by omega)):=aaQ (by omega)
    rw[eM (show i<g.ax.length by omega)] at hi
    have b:g.ax[i]'(by omega)∈g.ax:=aaW _
    generalize g.ax[i]'(by omega)=t at f hi b
    obtain⟨⟨A,B⟩,⟨C,D⟩⟩:=p.term t b
    simp only[pX] at hi
    have a:ng g i t=false->gb false=gb (na g):=λe=>by rw[e,ab6] at hi;simp[na,<-hi]
    simp(disch:=omega)only[↓wr,seval,wq,h1,d,ak,dg,aaS,f,aa2]
    intro m hm
    try simp(disch:=omega)only[↓wr,seval,wq,h1,d]
    refine az.pure (Qz t.name) ?_
    repeat' (first | ((first|apply ao.dec|apply ao.eq|apply ao.ne|apply ao.split)<;>intro)|(simp(disch:=omega)only[↓wr,seval,wq,h1,d,ak]))
    all_goals try (refine a ?_;simp[ng, *];done)
    rename_i s
    refine az.pure (Jl g p t.name) ?_
    repeat' (first | ((first|apply ao.dec|apply ao.eq|apply ao.ne|apply ao.split)<;>intro)|(simp(disch:=omega)only[↓wr,seval,wq,h1,d,ak]))
    all_goals try (refine a ?_;simp[ng, *];done)
    all_goals try (refine a ?_;simp[ng];grind)
    rename_i E K L M N F
    have c:ng g i t=xj g t:=by
     have u:((t.level==0)==(t.assoc==0))=true:=by simpa using F
     simp[ng,s,E,u,show (0:Int)<=t.level by omega,show t.level<=24 by omega,show (0:Int)<=t.assoc by omega,show t.assoc<=3 by omega]
    refine aW.intro (λv T l=>∃j:Nat,1<=j/\j+v=t.level.toNat+1/\(∀q:Nat,q+1<j->iY g.ax ((q:Int)+1)=true)/\T 1=.aR (ak g) 0/\T 3=gi i/\T 4=.ptr m 0 0/\l m=.arr 3 [[gs t.name,gi t.level,gi t.assoc]]/\T 5=gi j) t.level.toNat ?_ ?_
    .refine⟨1,by omega,by omega,λq w=>by omega,?_⟩
     simp(disch:=omega)only[↓wr,↓reduceIte,wq,Nat.reduceEqDiff,Nat.reduceAdd,Nat.reduceLT,Nat.reduceLeDiff,Int.reduceNeg,Int.reduceToNat,reduceCtorEq,h1,d,ak]
     rfl
    .rintro v O l ⟨j,G,I,n,f1,f3,f4,o,f5⟩
     simp(disch:=omega)only[↓wr,seval,wq,pr,f1,f3,f4,f5,o]
     apply ao.dec<;>intro J
     .simp(disch:=omega)only[↓wr,seval,wq,f1,f3,f4,f5,o,ak]
      refine az.pure (PT g p j) ?_
      repeat' (first | ((first|apply ao.dec|apply ao.eq|apply ao.ne|apply ao.split)<;>intro)|(simp(disch:=omega)only[↓wr,seval,wq,f1,f3,f4,f5,o,ak]))
      .rename_i x
       refine⟨v-1,by omega,j+1,by omega,by omega,λq w=>?_,by first | rfl | exact⟨rfl,rfl⟩ | exact⟨rfl,rfl,rfl⟩⟩
       by_cases e:q+1=j
       .have:(q:Int)+1=j:=by omega
        rw[this];exact x
       .exact n q (by omega)
      .rename_i x
       refine a ?_
       rw[c,xj,acS]
       refine⟨j-1,by simp;omega,?_⟩
       have:((j-1:Nat):Int)+1=j:=by omega
       rw[this,x];simp
     .simp(disch:=omega)only[↓wr,seval,wq,f1,f3,f4,f5,o]
      refine⟨k-1,by omega,i+1,by omega,?_,by first | rfl | exact⟨rfl,rfl⟩ | exact⟨rfl,rfl,rfl⟩⟩
      have y:xj g t=true:=by
       rw[xj,abj]
       intro q w
       exact n q (by simp at w;omega)
      rw[c,y,aby] at hi
      push_cast;exact hi
   .rw[abg (by omega)] at hi
    simp only[pX] at hi
    simp(disch:=omega)only[↓wr,seval,wq,h1,d]
    simp[na,hle,<-hi]
theorem Qy (g:aj) (a:g.Ok):aC aa 104 [.agg (ak g)] (gb (na g)):=aC.val (dS g) (Qf g a)
def rV (g:aj) (i:Int) (s:ByteArray):Bool:=iM (gK s)&&(Hj g s==i)&&decide (uE g s<0)
def ux (g:aj):List ByteArray->Int->Bool
 | [],_=>true
 | s::r,i=>rV g i s&&ux g r (i+1)
def nV (g:aj):Bool:=decide (1<=g.av.length)&&decide (g.av.length<=16)&&ux g g.av 0
theorem Rs (g:aj) (h:g.Ok) (H:View):ay aa 105 [.agg (ak g)] H λr _=>r=gb (nV g):=by
 refine ay.of mixed yD ?_
 repeat' (first | ((first|apply ao.dec|apply ao.eq|apply ao.ne|apply ao.split)<;>intro)|(simp(disch:=omega)only[↓wr,seval,wq,sW,ak,encS]))
 .simp[nV,show ¬ 1<=g.av.length by omega]
 .simp[nV,show ¬ g.av.length<=16 by omega]
 .have hle:g.av.length<=16:=by omega
  refine aW.intro (λk T _=>∃i:Nat,i+k=g.av.length/\ux g (g.av.drop i) i=ux g g.av 0/\T 1=.aR (ak g) 0/\T 3=gi i) g.av.length ?_ ?_
  .exact⟨0,by omega,rfl,rfl,rfl⟩
  .rintro k T H' ⟨i,hk,hi,h1,c⟩
   simp(disch:=omega)only[↓wr,seval,wq,ql,h1,c,ak,encS]
   apply ao.dec<;>intro j
   .have b:g.av[i]?=some (g.av[i]'(by omega)):=aaQ (by omega)
    rw[eM (show i<g.av.length by omega)] at hi
    generalize g.av[i]'(by omega)=t at b hi
    simp only[ux] at hi
    have a:rV g i t=false->gb false=gb (nV g):=λe=>by rw[e,ab6] at hi;simp[nV,<-hi]
    simp(disch:=omega)only[↓wr,seval,wq,h1,c,ak,encS,aaS,b,aa2]
    refine az.pure (Jj t) ?_
    repeat' (first | ((first|apply ao.dec|apply ao.eq|apply ao.ne|apply ao.split)<;>intro)|(simp(disch:=omega)only[↓wr,seval,wq,h1,c,ak,encS,aaS,b,aa2]))
    all_goals try (refine a ?_;simp[rV, *];done)
    rename_i d
    refine az.pure (U6 g h t) ?_
    repeat' (first | ((first|apply ao.dec|apply ao.eq|apply ao.ne|apply ao.split)<;>intro)|(simp(disch:=omega)only[↓wr,seval,wq,h1,c,ak,encS,aaS,b,aa2]))
    all_goals try (refine a ?_;simp[rV, *];done)
    rename_i f
    refine az.pure (Jl g h t) ?_
    repeat' (first | ((first|apply ao.dec|apply ao.eq|apply ao.ne|apply ao.split)<;>intro)|(simp(disch:=omega)only[↓wr,seval,wq,h1,c,ak,encS]))
    all_goals try (refine a ?_;simp[rV, *];done)
    rename_i l
    refine⟨k-1,by omega,i+1,by omega,?_,by first | rfl | exact⟨rfl,rfl⟩ | exact⟨rfl,rfl,rfl⟩⟩
    have:rV g i t=true:=by simp[rV,d,f,show uE g t<0 by omega]
    rw[this,aby] at hi
    push_cast;exact hi
   .rw[abg (by omega)] at hi
    simp only[ux] at hi
    simp(disch:=omega)only[↓wr,seval,wq,h1,c]
    simp[nV,hle,show 1<=g.av.length by omega,<-hi]
theorem Rj (g:aj) (a:g.Ok):aC aa 105 [.agg (ak g)] (gb (nV g)):=aC.val (dS g) (Rs g a)
def rQ (g:aj) (prec s:Int):Bool:=dP g s && !(decide (0<=s)&&prec == -1)
def kF (g:aj) (r:bc):Bool:=decide (r.right.length<=6)&&decide (-1<=r.prec)&&decide (r.prec<g.ax.length)&&r.right.all (rQ g r.prec)
theorem KO (g:aj) (r:bc):∀v∈[V.agg (ak g),V.agg (aQ r)],Tree v:=by
 intro v a;simp at a
 rcases a with rfl | rfl
 .exact bW _ (cx g)
 .exact bW _ (gn r)
theorem QS (g:aj) (r:bc) (hr:aI r.right/\∀x∈r.right,bm x) (H:View):ay aa 106 [.agg (ak g),.agg (aQ r)] H λv _=>v=gb (kF g r):=by
 refine ay.of mixed yY ?_
 repeat' (first | ((first|apply ao.dec|apply ao.eq|apply ao.ne|apply ao.split)<;>intro)|(simp(disch:=omega)only[↓wr,seval,wq,tN,ak,encS,aQ,encI]))
 .simp[kF,show ¬ r.right.length<=6 by omega]
 .simp[kF,show ¬ -1<=r.prec by omega]
 .simp[kF,show ¬ r.prec<g.ax.length by omega]
 .have hle:r.right.length<=6:=by omega
  have j : -1<=r.prec:=by omega
  have l:r.prec<g.ax.length:=by omega
  refine aW.intro (λk T _=>∃i:Nat,i+k=r.right.length/\(r.right.drop i).all (rQ g r.prec)=r.right.all (rQ g r.prec)/\T 2=.aR (ak g) 0/\T 3=.aR (aQ r) 0/\T 5=gi i) r.right.length ?_ ?_
  .exact⟨0,by omega,rfl,rfl,rfl,rfl⟩
  .rintro k T H' ⟨i,hk,hi,d,f,h⟩
   simp(disch:=omega)only[↓wr,seval,wq,qQ,d,f,h,aQ,encI]
   apply ao.dec<;>intro o
   .have b:r.right[i]?=some (r.right[i]'(by omega)):=aaQ (by omega)
    rw[eM (show i<r.right.length by omega)] at hi
    have a:r.right[i]'(by omega)∈r.right:=aaW _
    generalize r.right[i]'(by omega)=t at b hi a
    have m:=hr.2 t a
    simp only[ab0] at hi
    have c:rQ g r.prec t=false->gb false=gb (kF g r):=λe=>by rw[e,ab6] at hi;simp only[kF,<-hi,acr]
    have n:rQ g r.prec t=true->(r.right.drop (i+1)).all (rQ g r.prec)=r.right.all (rQ g r.prec):=λe=>by rw[e,aby] at hi;exact hi
    simp(disch:=omega)only[↓wr,seval,wq,d,f,h,ak,encS,aQ,encI,aaS,b,aa2]
    refine az.pure (RV g t m) ?_
    repeat' (first | ((first|apply ao.dec|apply ao.eq|apply ao.ne|apply ao.split)<;>intro)|(simp(disch:=omega)only[↓wr,seval,wq,d,f,h,ak,encS,aQ,encI,aaS,b,aa2]))
    all_goals first
     | (refine c ?_;simp[rQ, *];done)
     | (refine⟨k-1,by omega,i+1,by omega,n (by simp[rQ, *];done),by first | rfl | exact⟨rfl,rfl⟩ | exact⟨rfl,rfl,rfl⟩⟩)
     | skip
   .rw[abg (by omega)] at hi
    simp only[List.all_nil] at hi
    simp(disch:=omega)only[↓wr,seval,wq,d,f,h]
    simp only[kF,hle,j,l,decide_true,aby,<-hi]
theorem Si (g:aj) (r:bc) (hr:aI r.right/\∀x∈r.right,bm x):aC aa 106 [.agg (ak g),.agg (aQ r)] (gb (kF g r)):=aC.val (KO g r) (QS g r hr)
def kP (g:aj):List bc->Int->Bool
 | [],top=>top==(g.av.length:Int)-1
 | r::l,top=>decide (0<=r.left)&&decide (r.left<=top+1)&&kF g r&&kP g l (if r.left>top then r.left else top)
def bt (g:aj):Bool:=
 na g&&nV g&&decide (1<=g.rules.length)&&decide (g.rules.length<=40)&&decide (0<=g.start)&&decide (g.start<g.av.length)&&kP g g.rules (-1)
theorem Pt (g:aj) (h:g.Ok) (H:View):ay aa 50 [.agg (ak g)] H λr _=>r=gb (bt g):=by
 refine ay.of mixed xB ?_
 have o:=h.av
 unfold aI at o
 simp(disch:=omega)only[↓wr,seval,wq,rz,ak,encS]
 refine az.pure (Qy g h) ?_
 repeat' (first | ((first|apply ao.dec|apply ao.eq|apply ao.ne|apply ao.split)<;>intro)|(simp(disch:=omega)only[↓wr,seval,wq,ak,encS]))
 .rename_i h1
  refine az.pure (Rj g h) ?_
  repeat' (first | ((first|apply ao.dec|apply ao.eq|apply ao.ne|apply ao.split)<;>intro)|(simp(disch:=omega)only[↓wr,seval,wq,ak,encS]))
  all_goals try (simp[bt, *];done)
  all_goals try (simp[bt];omega)
  rename_i p y z A B
  have hle:g.rules.length<=40:=by omega
  have a:∀b,kP g g.rules (-1)=b->gb b=gb (bt g):=λb e=>by
   simp[bt,h1,p,show 1<=g.rules.length by omega,hle,show 0<=g.start by omega,show g.start<g.av.length by omega,e]
  refine aW.intro (λk T _=>∃(i:Nat) (w:Int),i+k=g.rules.length/\-1<=w/\w<i/\kP g (g.rules.drop i) w=kP g g.rules (-1)/\T 1=.aR (ak g) 0/\T 3=gi w/\T 4=gi i) g.rules.length ?_ ?_
  .exact⟨0,-1,by omega,by omega,by omega,rfl,rfl,rfl,rfl⟩
  .rintro k T H' ⟨i,w,hk,q,s,hi,f1,f3,f4⟩
   simp(disch:=omega)only[↓wr,seval,wq,pT,f1,f3,f4,ak]
   apply ao.dec<;>intro u
   .have d:g.rules[i]?=some (g.rules[i]'(by omega)):=aaQ (by omega)
    rw[eM (show i<g.rules.length by omega)] at hi
    have c:g.rules[i]'(by omega)∈g.rules:=aaW _
    generalize g.rules[i]'(by omega)=t at d hi c
    obtain⟨⟨v,x⟩,hp,j,l⟩:=h.aB t c
    simp only[kP] at hi
    simp(disch:=omega)only[↓wr,seval,wq,f1,f3,f4,ak,encS,aQ,encI,aaS,d,aa2]
    intro m hm
    try simp(disch:=omega)only[↓wr,seval,wq,f1,f3,f4]
    repeat' (first | ((first|apply ao.dec|apply ao.eq|apply ao.ne|apply ao.split)<;>intro)|(simp(disch:=omega)only[↓wr,seval,wq,f1,f3,f4,ak,encS,aQ,encI]))
    all_goals try (refine a _ ?_;simp only[<-hi];simp;omega)
    rename_i C D
    refine az.pure (Si g t ⟨j,l⟩) ?_
    repeat' (first | ((first|apply ao.dec|apply ao.eq|apply ao.ne|apply ao.split)<;>intro)|(simp(disch:=omega)only[↓wr,seval,wq,f1,f3,f4,ak,encS,aQ,encI]))
    all_goals simp only[show 0<=t.left by omega,show t.left<=w+1 by omega,decide_true,aby] at hi
    .rename_i f n
     rw[f,aby,aaT n] at hi
     exact⟨k-1,by omega,i+1,_,by omega,by omega,by push_cast;omega,hi,by first | rfl | exact⟨rfl,rfl⟩ | exact⟨rfl,rfl,rfl⟩⟩
    .rename_i f n
     rw[f,aby,aaR n] at hi
     exact⟨k-1,by omega,i+1,_,by omega,by omega,by push_cast;omega,hi,by first | rfl | exact⟨rfl,rfl⟩ | exact⟨rfl,rfl,rfl⟩⟩
    .rename_i f
     rw[f,ab6] at hi
     exact a _ hi.symm
   .rw[abg (by omega)] at hi
    simp only[kP] at hi
    simp(disch:=omega)only[↓wr,seval,wq,f1,f3,f4,ak,encS]
    exact a _ hi.symm
 .rename_i h1;simp[bt,h1]
theorem j7 (g:aj) (a:g.Ok):aC aa 50 [.agg (ak g)] (gb (bt g)):=aC.val (dS g) (Pt g a)
inductive c8 (α:Type) where
 | nil
 | node (v:α) (l r:c8 α)
def c8.get {α:Type} (z:α) (t:c8 α):Nat->α:=
 c8.rec (motive:=λ_=>Nat->α) (λ_=>z) (λv _ _ gl gr i=>Bool.rec (Bool.rec (gr (i / 2-1)) (gl (i / 2)) (Nat.beq (i % 2) 1)) v (Nat.beq i 0)) t
theorem c8.get_nil {α:Type} (z:α) (i:Nat):c8.get z .nil i=z:=rfl
theorem c8.UP {α:Type} (z v:α) (l r:c8 α) (i:Nat):c8.get z (.node v l r) i=match Nat.beq i 0 with
  | true=>v
  | false=>match Nat.beq (i % 2) 1 with
   | true=>c8.get z l (i / 2)
   | false=>c8.get z r (i / 2-1):=by
 change (Bool.rec (motive:=λ_=>α) _ _ _:α)=_
 cases Nat.beq i 0 with
 | true=>rfl
 | false=>cases Nat.beq (i % 2) 1<;>rfl
def c8.val {α:Type} (z:α):c8 α->α
 | .nil=>z
 | .node v _ _=>v
def c8.left {α:Type} : c8 α->c8 α
 | .nil=>.nil
 | .node _ l _=>l
def c8.right {α:Type} : c8 α->c8 α
 | .nil=>.nil
 | .node _ _ r=>r
def c8.put {α:Type} (z:α) (x:α) (d:Nat):c8 α->Nat->c8 α:=
 Nat.rec (motive:=λ_=>c8 α->Nat->c8 α) (λt _=>t) (λ_ pd t i =>
  Bool.rec (Bool.rec (.node (t.val z) t.left (pd t.right (i / 2-1))) (.node (t.val z) (pd t.left (i / 2)) t.right) (Nat.beq (i % 2) 1)) (.node x t.left t.right) (Nat.beq i 0)) d
theorem c8.VQ {α:Type} (z x:α) (d:Nat) (t:c8 α) (i:Nat):c8.put z x (d+1) t i=match Nat.beq i 0 with
  | true=>.node x t.left t.right
  | false=>match Nat.beq (i % 2) 1 with
   | true=>.node (t.val z) (c8.put z x d t.left (i / 2)) t.right
   | false=>.node (t.val z) t.left (c8.put z x d t.right (i / 2-1)):=by
 change (Bool.rec (motive:=λ_=>c8 α) _ _ _:c8 α)=_
 cases Nat.beq i 0 with
 | true=>rfl
 | false=>cases Nat.beq (i % 2) 1<;>rfl
theorem c8.pR {α:Type} (z:α) (t:c8 α) (j:Nat):t.get z j=if j=0 then t.val z else if j % 2=1 then t.left.get z (j / 2) else t.right.get z (j / 2-1):=by
 cases t with
 | nil=>simp[c8.get_nil,c8.val,c8.left,c8.right]
 | node v l r =>
  simp only[c8.UP,c8.val,c8.left,c8.right]
  by_cases h:j=0
  .subst h;rfl
  .have:Nat.beq j 0=false:=by cases e:Nat.beq j 0 with | true=>exact absurd (acQ e) h | false=>rfl
   rw[this,aaR h]
   by_cases a:j % 2=1
   .have:Nat.beq (j % 2) 1=true:=by rw[a];rfl
    rw[this,aaT a]
   .have:Nat.beq (j % 2) 1=false:=by cases e:Nat.beq (j % 2) 1 with | true=>exact absurd (acQ e) a | false=>rfl
    rw[this,aaR a]
theorem c8.pH {α:Type} (z x:α):∀(d:Nat) (t:c8 α) (i j:Nat),i+1<2 ^ d->(c8.put z x d t i).get z j=if j=i then x else t.get z j
 | 0,t,i,j,h=>by simp at h
 | d+1,t,i,j,h=>by
  simp only[c8.VQ]
  by_cases hi:i=0
  .subst hi
   have:Nat.beq 0 0=true:=rfl
   simp only
   rw[c8.pR,c8.pR z t]
   simp only[c8.val,c8.left,c8.right]
   by_cases b:j=0
   .rw[aaT b,aaT b]
   .rw[aaR b,aaR b,aaR b]
  .have:Nat.beq i 0=false:=by cases e:Nat.beq i 0 with | true=>exact absurd (acQ e) hi | false=>rfl
   rw[this]
   by_cases c:i % 2=1
   .have:Nat.beq (i % 2) 1=true:=by rw[c];rfl
    rw[this]
    rw[c8.pR,c8.pR z t]
    simp only[c8.val,c8.left,c8.right]
    by_cases b:j=0
    .subst b;rw[aaT rfl,aaR (λe=>hi e.symm),aaT rfl]
    .rw[aaR b,aaR b]
     by_cases a:j % 2=1
     .rw[aaT a,aaT a,c8.pH z x d _ _ _ (by omega)]
      by_cases e:j=i
      .subst e;simp
      .rw[aaR e,aaR (by omega)]
     .rw[aaR a,aaR a,aaR (λe=>a (by rw[e];exact c))]
   .have:Nat.beq (i % 2) 1=false:=by cases e:Nat.beq (i % 2) 1 with | true=>exact absurd (acQ e) c | false=>rfl
    rw[this]
    rw[c8.pR,c8.pR z t]
    simp only[c8.val,c8.left,c8.right]
    by_cases b:j=0
    .subst b;rw[aaT rfl,aaR (λe=>hi e.symm),aaT rfl]
    .rw[aaR b,aaR b]
     by_cases a:j % 2=1
     .rw[aaT a,aaT a,aaR (λe=>c (by rw[<-e];exact a))]
     .rw[aaR a,aaR a,c8.pH z x d _ _ _ (by omega)]
      by_cases e:j=i
      .subst e;simp
      .rw[aaR e,aaR (by omega)]
abbrev deep:Nat:=13
structure ES where
 L:c8 V
 H:c8 cr
 n:Nat
 w:List Nat
def ES.T (s:ES):Env:=s.L.get .any
def ES.V (s:ES):View:=s.H.get .dead
def ES.put (s:ES) (d:Option Nat) (v:Gv.V):ES:=match d with
 | some t=>⟨s.L.put .any v deep t,s.H,s.n,s.w⟩
 | none=>s
theorem ES.WR {s:ES} {d:Option Nat} {v:Gv.V} (h:∀t,d=some t->t<8000):(s.put d v).T=s.T.put d v:=by
 cases d with
 | none=>rfl
 | some t =>
  funext k
  have:=h t rfl
  simp only[ES.put,ES.T,Env.put]
  rw[c8.pH _ _ _ _ _ _ (by simp[deep];omega)]
def Va (v:V) (eff:bp) (rd:List Nat) (s:ES):Option (V × ES × Rec):=match eff with
 | .none=>some (v,s,⟨rd,[],false,s.n,s.n⟩)
 | .new o=>match Nat.ble s.n 8000 with
  | true=>some (v,⟨s.L,s.H.put .dead o deep s.n,s.n+1,s.w⟩,⟨rd,[],false,s.n,s.n+1⟩)
  | false=>none
 | .fR id o=>match Nat.ble id 8000 with
  | true=>some (v,⟨s.L,s.H.put .dead o deep id,s.n,id::s.w⟩,⟨rd,[id],false,s.n,s.n⟩)
  | false=>none
 | .eT id o=>match Nat.ble s.n 8000,Nat.ble id 8000 with
  | true,true=>some (v,⟨s.L,(s.H.put .dead .dead deep id).put .dead o deep s.n,s.n+1,id::s.w⟩,⟨rd,[id],false,s.n,s.n+1⟩)
  | _,_=>none
def ZN (x:SX) (_:Program) (T:Env) (_:View) (_:Nat):Out:=some (x.at T,.none,[])
def Zn (c a b:SX) (_:Program) (T:Env) (_:View) (_:Nat):Out:=match c.at T with
 | .val (.bool t)=>some (if t then a.at T else b.at T,.none,[])
 | _=>none
def Zf (sz:Option Nat) (a:SX) (_:Program) (T:Env) (H:View) (_:Nat):Out:=zO sz (a.at T) H
def Yu (sz:Nat) (a x:SX) (_:Program) (T:Env) (H:View) (_:Nat):Out:=FJ sz (a.at T) (x.at T) H
def Zw (off:Nat) (x:SX) (_:Program) (T:Env) (_:View) (_:Nat):Out:=CZ off (x.at T)
def aau (sz:Nat) (x i:SX) (_:Program) (T:Env) (_:View) (_:Nat):Out:=HL sz (x.at T) (i.at T)
def ZG (x:SX) (_:Program) (T:Env) (_:View) (_:Nat):Out:=(cJ (x.at T)).map λn=>(cO n,.none,[])
def Ym (op:BinOp) (x y:SX) (_:Program) (T:Env) (_:View) (_:Nat):Out:=B7 op (x.at T) (y.at T)
def Z2 (op:BinOp) (x y:SX) (_:Program) (T:Env) (_:View) (_:Nat):Out:=DO op (x.at T) (y.at T)
def ZF (x:SX) (_:Program) (T:Env) (_:View) (_:Nat):Out:=match x.at T with
 | .val (.bool t)=>some (.val (.bool (!t)),.none,[])
 | _=>none
def ZZ (i:Nat) (x:SX) (_:Program) (T:Env) (_:View) (_:Nat):Out:=match x.at T with
 | .bb vs=>if i<vs.length then some (vs.getD i .any,.none,[]) else none
 | _=>none
def Zd (x:SX) (_:Program) (T:Env) (_:View) (_:Nat):Out:=match x.at T with
 | .ptr id i j=>some (.ptr id i j,.none,[])
 | .aR e j=>some (.aR e j,.none,[])
 | .fn f a b=>some (.fn f a b,.none,[])
 | _=>none
def eI (s:SI):Program->Env->View->Nat->Out:=match s with
 | .eT x=>ZN x
 | .pick c a b=>Zn c a b
 | .load sz a=>Zf sz a
 | .store sz a x=>Yu sz a x
 | .addr o x=>Zw o x
 | .idx sz x i=>aau sz x i
 | .len x=>ZG x
 | .arith op x y=>Ym op x y
 | .Ay op x y=>Z2 op x y
 | .not x=>ZF x
 | .ext i x=>ZZ i x
 | .Ex x=>Zd x
 | s=>λP T H n=>sI P s T H n
theorem Pl (s:SI) (P:Program) (T:Env) (H:View) (n:Nat):eI s P T H n=sI P s T H n:=by
 cases s<;>rfl
abbrev jy:=FuncId->List V->ES->Option (V × ES)
def Ti (P:Program) (s:SI) (e:ES):Option (V × ES × Rec):=match eI s P e.T e.V e.n with
 | some (v,eff,rd)=>Va v eff rd e
 | none=>none
def SE (call:jy) (f:SX) (args:List SX) (e:ES):Option (V × ES × Rec):=match f.at e.T with
 | .fn g first cap=>match call g (first++args.map (SX.at e.T)++cap) e with
  | some (v,e')=>some (v,⟨e.L,e'.H,e'.n,e'.w++e.w⟩,⟨[],e'.w,true,e.n,e'.n⟩)
  | none=>none
 | _=>none
def eB (P:Program) (call:jy) (b:SB):ES->Option (V × ES × Rec):=match b with
 | .op s=>Ti P s
 | .call f args=>SE call f args
 | .oQ ..=>λ_=>none
def NT (P:Program) (call:jy):List (Option Nat × SB)->List Rec->ES->Option (ES × List Rec)
 | [],a,e=>some (e,a)
 | (d,b)::r,a,e=>match eB P call b e with
  | some (v,e',c)=>NT P call r (a++[c]) (e'.put d v)
  | none=>none
def W4 (e:ES):Rec:=⟨[],[],false,e.n,e.n⟩
def CA:List (Option Nat × SB)->List Rec->ES->ES × List Rec
 | [],a,e=>(e,a)
 | (d,_)::r,a,e=>CA r (a++[W4 e]) (e.put d (.bb []))
def SM (P:Program) (call:jy) (ops:List (Option Nat × SB)) (want:Bool) (v:V) (a:List Rec) (e:ES):Option (ES × List Rec):=match v with
 | .val (.bool b)=>match xor b want with
  | true=>some (CA ops a e)
  | false=>NT P call ops a e
 | .bb []=>some (CA ops a e)
 | _=>none
def eG (P:Program) (call:jy) (g:SG) (a:List Rec) (e:ES):Option (ES × List Rec):=match g.guard with
 | none=>NT P call g.ops a e
 | some (d,want)=>SM P call g.ops want (e.T d) a e
def Tw (P:Program) (call:jy):List SG->List Rec->ES->Option (ES × List Rec)
 | [],a,e=>some (e,a)
 | g::r,a,e=>match eG P call g a e with
  | some (e',a')=>Tw P call r a' e'
  | none=>none
inductive DC where
 | skip
 | region (ps:List (Nat × Nat)) (gs:List SG)
 | seq (x y:DC)
 | cond (c:SX) (x y:DC)
 | block (id:Nat) (c:DC)
 | loop (c:DC)
 | exit (id:Nat)
 | ret
 deriving Inhabited
def QR (recs:List Rec) (ps:List (Nat × Nat)):Bool:=ps.all λ(i,k)=>match recs[i]?,recs[k]? with
 | some a,some b=>G9 a b
 | _,_=>false
abbrev ER:=Option (Exit × ES)
abbrev AT:=DC->ES->ER
def YX:ES->ER:=λe=>some (.normal,e)
def OG (P:Program) (call:jy) (ps:List (Nat × Nat)) (gs:List SG) (e:ES):ER:=match Tw P call gs [] e with
 | some (e',recs)=>match QR recs ps with
  | true=>some (.normal,e')
  | false=>none
 | none=>none
def YM (run:AT) (x y:DC) (e:ES):ER:=match run x e with
 | some (.normal,e')=>run y e'
 | r=>r
def WW (run:AT) (c:SX) (x y:DC) (e:ES):ER:=match c.at e.T with
 | .val (.bool true)=>run x e
 | .val (.bool false)=>run y e
 | _=>none
def Um (run:AT) (id:Nat) (c:DC) (e:ES):ER:=match run c e with
 | some (r,e')=>some (sw id r,e')
 | none=>none
def WN (run:AT) (c:DC) (e:ES):ER:=match run c e with
 | some (.normal,e')=>run (.loop c) e'
 | r=>r
def uu (P:Program) (call:jy) (run:AT) (c:DC):ES->ER:=match c with
 | .skip=>YX
 | .region ps gs=>OG P call ps gs
 | .seq x y=>YM run x y
 | .cond c x y=>WW run c x y
 | .block id c=>Um run id c
 | .loop c=>WN run c
 | .exit id=>λe=>some (.exit id,e)
 | .ret=>λe=>some (.ret,e)
def VH (r:SR) (e:ES):Option V:=match r with
 | .tmp t=>some (e.T t)
 | .cell t sz=>match e.T t with
  | .ptr id i j=>match e.V id with
   | .arr _ es=>if i<es.length then oJ sz (es.getD i []) j else none
   | _=>none
  | .aR e j=>oJ sz e j
  | _=>none
def zr:List SR->ES->Option (List V)
 | [],_=>some []
 | r::l,e=>match VH r e,zr l e with
  | some v,some vs=>some (v::vs)
  | _,_=>none
def pB:List V->Nat->c8 V->c8 V
 | [],_,t=>t
 | v::vs,i,t=>pB vs (i+1) (t.put .any v deep i)
structure DF where
 code:DC
 res:List SR
 n:Nat
def Yx (l:List SR) (r:ER):Option (V × ES):=match r with
 | some (.ret,e)=>(zr l e).map λvs=>(zw vs,e)
 | some (.normal,e)=>(zr l e).map λvs=>(zw vs,e)
 | _=>none
def YL (m:Nat) (r:Option (V × ES)):Option (V × ES):=match r with
 | some (v,e)=>some (v,⟨e.L,e.H,e.n,e.w.filter λid=>Nat.blt id m⟩)
 | none=>none
def YH (run:AT) (F:DF) (vs:List V) (e:ES):Option (V × ES):=match Nat.ble vs.length F.n,Nat.ble F.n 8000 with
 | true,true=>YL e.n (Yx F.res (run F.code ⟨pB vs 0 .nil,e.H,e.n,[]⟩))
 | _,_=>none
abbrev BY:=FuncId->List V->View->Option V
def JL (P:Program) (tab:List (FuncId × DF)) (ext:BY) (run:AT) (g:FuncId) (vs:List V) (e:ES):Option (V × ES):=match ext g vs e.V with
 | some t=>some (t,⟨e.L,e.H,e.n,[]⟩)
 | none=>match tab.find? (λp=>Nat.beq p.1 g) with
  | some (_,F)=>YH run F vs e
  | none=>none
def Kc (P:Program) (tab:List (FuncId × DF)) (ext:BY):Nat->AT
 | 0=>λ_ _=>none
 | k+1=>uu P (JL P tab ext (Kc P tab ext k)) (Kc P tab ext k)
def F1 (all:List Oper) (ls:List Nat):List (Nat × Nat):=
 let b:=gW all []
 (ls.zipIdx.map λ(x,i)=>(ls.zipIdx.filter λ(y,k)=>decide (i<k) && !(ordered b i k||x==0||y==0||(decide (x<=1)&&decide (y<=1)))).map λ(_,k)=>(i,k)).flatten
def Ls (P:Program) (n:Nat) (fz:List Nat) (ops:List Oper) (draw:Bool):Option DC:=match en P n ops ⟨fz,false⟩ ops with
 | none=>none
 | some l=>if !(group l).all wX then none else
  if draw then (if ox ops then some (.region (F1 ops (l.map λs=>jY P false s.b)) (group l)) else none) else some (.region [] (group l))
def kD (P:Program) (n:Nat) (fz:List Nat):Code->Option DC
 | .skip=>some .skip
 | .region _ ops draw=>Ls P n fz ops.toList draw
 | .seq x y=>match kD P n fz x,kD P n fz y with
  | some a,some b=>some (.seq a b)
  | _,_=>none
 | .cond c x y=>match kD P n fz x,kD P n fz y with
  | some a,some b=>some (.cond (SX.of c) a b)
  | _,_=>none
 | .block id c=>(kD P n fz c).map (.block id)
 | .loop c=>(kD P n fz c).map .loop
 | .exit id=>some (.exit id)
 | .ret=>some .ret
 | _=>none
abbrev c_s (l:List (Option Nat × SB)):DC:=.region [] [⟨none,l⟩]
def Lb (P:Program) (f:FuncId) (fz:List Nat):Option DF:=match P.funcs[f]? with
 | some fn=>match fn.body with
  | some c=>match kD P fn.ntmps fz c,gN P fn.results.toList,ec P f with
   | some sc,some rs,true=>some ⟨sc,rs,fn.ntmps⟩
   | _,_,_=>none
  | none=>none
 | none=>none
section
variable {P:Program} {n:Nat} {all:List Oper}
def jW (h:Heap) (e:ES):Prop:=e.V=h.view/\e.n=h.length
def Calm (e e':ES) (h h':Heap):Prop:=h.length<=h'.length/\(∀id,id<h.length->¬ id∈e'.w->h'.view id=h.view id/\¬ id∈e.w)
theorem Calm.trans {a b c:ES} {h1 e f:Heap} (x:Calm a b h1 e) (y:Calm b c e f):Calm a c h1 f:=
 ⟨abG x.1 y.1,λid d hw =>
  let ⟨g,d1⟩:=y.2 id (abq d x.1) hw
  let ⟨h,d2⟩:=x.2 id d d1
  ⟨g.trans h,d2⟩⟩
theorem Calm.refl (e:ES) (h:Heap):Calm e e h h:=⟨aaY _,λ_ _ hw=>⟨rfl,hw⟩⟩
def mD (P:Program) (call:jy):Prop:=∀g vs e v e' h,call g vs e=some (v,e')->jW h e ->
 ec P g=true/\∃h',bY P g vs h v h'/\jW h' e'/\(∀id,id<h.length->¬ id∈e'.w->h'.view id=h.view id)/\∀id,id∈e'.w->id<h.length
def z6 (P:Program) (run:AT):Prop:=∀(n:Nat) (fz:List Nat) (c:Code) (sc:DC),kD P n fz c=some sc->n<=8000->∀(e e':ES) (r:Exit) (h:Heap),run sc e=some (r,e')->jW h e ->
 ∃h',dy P n c e.T h r e'.T h'/\jW h' e'/\Calm e e' h h'/\∀c0,c=.loop c0->sr P n c0 e.T h r e'.T h'
theorem Sm {h:Heap} {e:ES} {d:Option Nat} {v:V} (he:jW h e):jW h (e.put d v):=by cases d<;>exact he
theorem WE {e:ES} {d:Option Nat} {v:V} : (e.put d v).w=e.w:=by cases d<;>rfl
theorem U0 {h:Heap} {e e':ES} {b:Heap} {d:Option Nat} {v:V} (x:Calm e e' h b):Calm e (e'.put d v) h b:=⟨x.1,λid a hw=>x.2 id a (by rw[WE] at hw;exact hw)⟩
theorem Gg {a:Nat} (h:Nat.ble a 8000=true):a+1<2 ^ 13:=by
 have:=Nat.le_of_ble_eq_true h
 omega
theorem XJ {h:Heap} {e e':ES} {v v':V} {eff:bp} {rd:List Nat} {c:Rec} (he:jW h e) (a:Va v eff rd e=some (v',e',c)):
  v'=v/\e'.T=e.T/\e'.V=eff.view h.view h.length/\e'.n=(eff.apply h).length/\c=⟨rd,eff.wr,false,h.length,(eff.apply h).length⟩/\e'.w=eff.wr++e.w:=by
 obtain⟨h1,b⟩:=he
 unfold Va at a
 cases eff with
 | none =>
  obtain⟨rfl,rfl,rfl⟩:=a
  exact⟨rfl,rfl,h1,b,by rw[b];rfl,rfl⟩
 | new o =>
  simp only at a
  split at a
  .rename_i d
   obtain⟨rfl,rfl,rfl⟩:=a
   refine⟨rfl,rfl,?_,by simp[iH,b],by simp[iH,b,bp.wr],rfl⟩
   funext k
   simp only[ES.V,bp.view,View.set]
   rw[c8.pH _ _ _ _ _ _ (Gg d),b]
   have:=congrFun h1 k
   simp only[ES.V] at this
   rw[this]
  .simp at a
 | fR id o =>
  simp only at a
  split at a
  .rename_i d
   obtain⟨rfl,rfl,rfl⟩:=a
   refine⟨rfl,rfl,?_,by simp[iH,b],by simp[iH,b,bp.wr],rfl⟩
   funext k
   simp only[ES.V,bp.view,View.set]
   rw[c8.pH _ _ _ _ _ _ (Gg d)]
   have:=congrFun h1 k
   simp only[ES.V] at this
   rw[this]
  .simp at a
 | eT id o =>
  simp only at a
  split at a
  .rename_i f g
   obtain⟨rfl,rfl,rfl⟩:=a
   refine⟨rfl,rfl,?_,by simp[iH,b],by simp[iH,b,bp.wr],rfl⟩
   funext k
   simp only[ES.V,bp.view,View.set]
   rw[c8.pH _ _ _ _ _ _ (Gg f),c8.pH _ _ _ _ _ _ (Gg g),b]
   have:=congrFun h1 k
   simp only[ES.V] at this
   rw[this]
  .simp at a
theorem YU {o:Oper} {e e':ES} {h:Heap} {s:SI} {v:V} {c:Rec} (i:dT n all e.T o=some true) (j:∀v eff rd,sI P s e.T h.view h.length=some (v,eff,rd)->cK P o e.T h.view h.length=some (v,eff,rd))
  (he:jW h e) (b:Ti P s e=some (v,e',c)):∃d,eC P n all o e.T h v d c.rd c.wr c.call/\jW d e'/\e'.T=e.T/\Calm e e' h d/\mL (xn P s) c.rd c.wr c.call h.length d.length/\c.lo=h.length/\c.hi=d.length:=by
 unfold Ti at b
 rw[Pl,he.1,he.2] at b
 split at b
 .rename_i v0 eff rd f
  obtain⟨rfl,g1,g2,g3,rfl,g5⟩:=XJ he b
  have g:=j _ _ _ f
  have st:=eC.op (P:=P) (n:=n) (all:=all) i g
  refine⟨eff.apply h,st,⟨?_,g3⟩,g1,⟨wW st,λid a hw=>?_⟩,⟨λk=>?_,λh1=>?_⟩,rfl,rfl⟩
  .rw[k8 (λid a=>(pb g id a).1)];exact g2
  .rw[g5] at hw
   simp only[aa7,not_or] at hw
   exact⟨uD st a hw.1,hw.2⟩
  .obtain⟨rfl,rfl⟩:=(uT f).1 k
   exact⟨rfl,rfl,rfl,rfl⟩
  .rcases abo (xn P s) 1 with l | l
   .obtain⟨rfl,rfl⟩:=(uT f).1 (by omega);rfl
   .exact(uT f).2 (by omega)
 .simp at b
theorem Zs {call:jy} (j:mD P call) {q:Fz} {o:Oper} {e e':ES} {h:Heap} {v:V} {c:Rec} (r:dT n all e.T o=some true) (he:jW h e) (a:eB P call (oL P q o) e=some (v,e',c)):
  ∃k,eC P n all o e.T h v k c.rd c.wr c.call/\jW k e'/\e'.T=e.T/\Calm e e' h k/\mL (jY P false (oL P q o)) c.rd c.wr c.call h.length k.length/\c.lo=h.length/\c.hi=k.length:=by
 rcases Dn P q o with ⟨f,args,C,m,i | i⟩ | ⟨t,x,m,i⟩ | ⟨s,d,x,m,u,i⟩ | i
 rotate_left
 .grind [eB]
 rotate_right
 .rw[i] at a ⊢
  simp only[eB,SE] at a
  split at a
  .rename_i g first cap A
   rw[FP] at a
   rw[SX.di] at A
   split at a
   .rename_i v0 G D
    obtain⟨l,k,hr,p,B,w⟩:=j _ _ _ _ _ _ D he
    obtain⟨rfl,rfl,rfl⟩:=a
    exact⟨k,.call r m A l hr B w,p,rfl,⟨hr.1,λid y hw=>by
     simp only[aa7,not_or] at hw
     exact⟨B id y hw.1,hw.2⟩⟩,WY (by simp[jY]),he.2,p.2⟩
   .simp at a
  .simp at a
 .rw[i] at a ⊢
  simp only[eB,Ti,Pl,sI,SX.di] at a
  split at a
  .rename_i v0 eff rd b
   split at b
   .rename_i l
    obtain⟨rfl,rfl,rfl⟩:=b
    obtain⟨rfl,rfl,rfl⟩:=a
    exact⟨h,.kO r m l,he,rfl,Calm.refl _ _,⟨λ_=>⟨rfl,rfl,rfl,rfl⟩,λ_=>rfl⟩,he.2,he.2⟩
   .simp at b
  .simp at a
 .rw[i] at a ⊢
  obtain⟨ty,h1,E,F⟩:=DL u
  simp only[eB,Ti,Pl,sI,SX.di] at a
  split at a
  .rename_i v0 eff rd b
   split at b
   .rename_i st z
    obtain⟨rfl,rfl,rfl⟩:=b
    obtain⟨rfl,rfl,rfl⟩:=a
    exact⟨h,.ic r m h1 E F z,he,rfl,Calm.refl _ _,⟨λ_=>⟨rfl,rfl,rfl,rfl⟩,λ_=>rfl⟩,he.2,he.2⟩
   .simp at b
  .simp at a
 .rw[i] at a ⊢
  exact YU (s:=B4 P q.fr (comp P o)) r (λv eff rd b=>Nk (NW b)) he a
theorem YI {o:Oper} (a:uz n o=true) (b:n<=8000):∀t,o.dst=some t->t<8000:=by
 grind [uz]
theorem X2 {c:Rec} {a b:Nat} (h1:c.lo=a) (d:c.hi=b):c=⟨c.rd,c.wr,c.call,a,b⟩:=by cases c;subst h1;subst d;rfl
theorem KJ {call:jy} (i:mD P call) (M:n<=8000) {N:Fz} (g:Option (Nat × Bool)):∀(l:List (Option Nat × SB)) (os:List Oper) (e e':ES) (h:Heap) (a s:List Rec),
  en P n all N os=some (l.map λ(d,b)=>⟨d,g,b⟩)->(∀d w,g=some (d,w)->e.T d=.val (.bool w)/\(l.all λx=>x.1 != some d)=true)->jW h e->NT P call l a e=some (e',s) ->
  ∃f z,s=a++f/\Tr P n all os e.T h f e'.T z/\jW z e'/\Calm e e' h z/\hZ P false (l.map λ(d,b)=>⟨d,g,b⟩) f
 | [],os,e,e',h,a,s,A,B,he,j=>by
  have:=mW A;subst this
  simp only[NT,aaV,abf] at j;obtain⟨rfl,rfl⟩:=j
  exact⟨[],h,by simp,.nil,he,Calm.refl _ _,.nil⟩
 | (d,b)::l,os,e,e',h,a,s,A,B,he,j=>by
  obtain⟨o,r,rfl,h1,O⟩:=oF A
  obtain⟨Q,u,m,q⟩:=wb h1
  simp only at u m q
  have C:dT n all e.T o=some true:=by
   cases g with
   | none=>exact FV q
   | some p =>
    obtain⟨D,w⟩:=p
    have:=(mZ (T:=e.T) q).1 w (B D w rfl).1
    grind
  simp only[NT] at j
  rw[m] at j
  split at j
  .rename_i v K c R
   obtain⟨E,st,F,S,G,U,V,W⟩:=Zs i C he R
   have k:(K.put d v).T=e.T.put o.dst v:=by
    grind [ES.WR,YI]
   obtain⟨f,H,X,L,I,y,J⟩:=KJ i M g l r (K.put d v) e' E _ s O (λD w eq=>by
    have:=B D w eq
    simp only[ab0,aaZ,bne_iff_ne,ne_eq] at this
    refine⟨?_,this.2.2⟩
    rw[<-this.1,k,<-u]
    cases d with
    | none=>rfl
    | some t=>simp only[Env.put];rw[aaR];intro e;subst e;exact this.2.1 rfl) (Sm F) j
   rw[k] at L
   refine⟨_,H,?_,.cons st Q L,I,(U0 G).trans y,J.cons (by rw[m];exact U)⟩
   grind [X2]
  .simp at j
theorem LI {D:Fz} (E:n<=8000) (d:Nat) (w:Bool) (h:Heap):∀(l:List (Option Nat × SB)) (os:List Oper) (e e':ES) (a k:List Rec),
  en P n all D os=some (l.map λ(f,b)=>⟨f,some (d,w),b⟩)->(e.T d=.val (.bool !w)∨e.T d=.bb [])->(l.all λx=>x.1 != some d)=true->jW h e->CA l a e=(e',k) ->
  ∃c,k=a++c/\Tr P n all os e.T h c e'.T h/\jW h e'/\e'.w=e.w/\hZ P false (l.map λ(f,b)=>⟨f,some (d,w),b⟩) c
 | [],os,e,e',a,k,q,i,s,he,p=>by
  have:=mW q;subst this
  simp only[CA,abf] at p;obtain⟨rfl,rfl⟩:=p
  exact⟨[],by simp,.nil,he,rfl,.nil⟩
 | (f,b)::l,os,e,e',a,k,q,i,s,he,p=>by
  obtain⟨o,r,rfl,h1,F⟩:=oF q
  obtain⟨u,m,v,j⟩:=wb h1
  simp only at m v j
  have y:dT n all e.T o=some false:=by
   rcases i with i | i
   .rw[(mZ (T:=e.T) j).1 _ i];cases w<;>rfl
   .exact(mZ (T:=e.T) j).2 i
  simp only[ab0,aaZ,bne_iff_ne,ne_eq] at s
  have g:(e.put f (.bb [])).T=e.T.put o.dst (.bb []):=by
   grind [ES.WR,YI]
  obtain⟨c,G,C,z,A,B⟩:=LI E d w h l r (e.put f (.bb [])) e' _ k F (by
   have:(e.put f (.bb [])).T d=e.T d:=by
    rw[g,<-m]
    cases f with
    | none=>rfl
    | some t=>grind [Env.put]
   rw[this];exact i) s.2 (Sm he) p
  rw[g] at C
  refine⟨_,?_,Tr.cons (.skip y) u C,z,by rw[A,WE],B.cons (r:=⟨[],[],false,h.length,h.length⟩) ⟨λ_=>⟨rfl,rfl,rfl,rfl⟩,λ_=>rfl⟩⟩
  rw[G,abU,W4,he.2];rfl
theorem HR {j:Fz} (k:n<=8000) {d:Nat} {w:Bool} {h:Heap} {l:List (Option Nat × SB)} {os:List Oper} {e e':ES} {a f:List Rec}
  (m:en P n all j os=some (l.map λ(g,b)=>⟨g,some (d,w),b⟩)) (o:e.T d=.val (.bool !w)∨e.T d=.bb []) (p:(l.all λx=>x.1 != some d)=true) (he:jW h e) (q:CA l a e=(e',f)):
  ∃c i,f=a++c/\Tr P n all os e.T h c e'.T i/\jW i e'/\Calm e e' h i/\hZ P false (l.map λ(g,b)=>⟨g,some (d,w),b⟩) c:=by
 obtain⟨c,h1,r,s,t,u⟩:=LI k d w h l os e e' a f m o p he q
 exact⟨c,h,h1,r,s,⟨aaY _,λid _ hw=>⟨rfl,by rw[t] at hw;exact hw⟩⟩,u⟩
theorem Zt {call:jy} (c:mD P call) (m:n<=8000) {r:Fz} {g:SG} {os:List Oper} {e e':ES} {h:Heap} {a l:List Rec} (k:en P n all r os=some g.flat) (j:wX g=true) (he:jW h e) (f:eG P call g a e=some (e',l)):
  ∃i o,l=a++i/\Tr P n all os e.T h i e'.T o/\jW o e'/\Calm e e' h o/\hZ P false g.flat i:=by
 unfold eG at f
 unfold SG.flat at k ⊢
 unfold wX at j
 split at f
 .rename_i p
  rw[p] at k ⊢
  exact KJ c m none g.ops os e e' h a l k (λd w e=>by simp at e) he f
 .rename_i d want p
  rw[p] at k j ⊢
  unfold SM at f
  split at f
  .rename_i b q
   split at f
   .simp only[aaV] at f
    have e':b = !want:=by cases b<;>cases want<;>simp_all
    grind [HR]
   .have e':b=want:=by grind
    subst e'
    exact KJ c m (some (d,b)) g.ops os e _ h a l k (λs w e=>by simp at e;obtain⟨rfl,rfl⟩:=e;exact⟨q,j⟩) he f
  .rename_i q
   simp only[aaV] at f
   exact HR m k (.inr q) j he f
  .simp at f
theorem UA {call:jy} (b:mD P call) (z:n<=8000) {A:Fz}:∀(gs:List SG) (os:List Oper) (e e':ES) (h:Heap) (a i:List Rec),en P n all A os=some (oN gs)->gs.all wX=true->jW h e->Tw P call gs a e=some (e',i) ->
  ∃c j,i=a++c/\Tr P n all os e.T h c e'.T j/\jW j e'/\Calm e e' h j/\hZ P false (oN gs) c
 | [],os,e,e',h,a,i,k,_,he,d=>by
  have:=mW k;subst this
  simp only[Tw,aaV,abf] at d;obtain⟨rfl,rfl⟩:=d
  exact⟨[],h,by simp,.nil,he,Calm.refl _ _,.nil⟩
 | g::gs,os,e,e',h,a,i,k,f,he,d=>by
  simp only[ab0,aaZ] at f
  obtain⟨F,B,rfl,h1,C⟩:=tV k
  simp only[Tw] at d
  split at d
  .rename_i D E l
   obtain⟨G,m,o,p,q,r,s⟩:=Zt b z h1 f.1 he l
   obtain⟨H,t,u,v,w,x,y⟩:=UA b z gs B D e' m E i C f.2 q d
   exact⟨_,t,by rw[u,o,abU],p.append v,w,r.trans x,s.append y⟩
  .simp at d
theorem Q7 {ls:List Nat} {i k x y:Nat} (a:i<k) (b:ls[i]?=some x) (c:ls[k]?=some y) (d:ordered (gW all []) i k=false) (h:¬ (x=0∨y=0∨(x<=1/\y<=1))):(i,k)∈F1 all ls:=by
 unfold F1
 simp only[List.mem_flatten,aba]
 refine⟨_,⟨(x,i),by rw[abO];exact b,rfl⟩,?_⟩
 simp only[aba,ab7]
 refine⟨(y,k),⟨by rw[abO];exact c,?_⟩,rfl⟩
 grind
theorem Vg {ls:List Nat} {d:List Rec} (h:QR d (F1 all ls)=true) (v:ls.length=d.length) (hr:∀(i x:Nat) (r:Rec),ls[i]?=some x->d[i]?=some r->mL x r.rd r.wr r.call r.lo r.hi):xF all d:=by
 intro i k a b l s o t
 have hk:k<d.length:=(aaX.1 o).1
 have j:ls[i]?=some (ls[i]'(by omega)):=aaQ (by omega)
 have m:ls[k]?=some (ls[k]'(by omega)):=aaQ (by omega)
 generalize ls[i]'(by omega)=x at j
 generalize ls[k]'(by omega)=y at m
 have p:=hr i _ a j s
 have q:=hr k _ b m o
 by_cases f:x=0∨y=0∨(x<=1/\y<=1)
 .rcases f with h1 | h1 | h1
  .obtain⟨g,e,n,u⟩:=p.1 h1
   exact⟨λid c=>by simp[e] at c,λid _=>by simp[g],λf=>by simp[n] at f,λ_=>e,λid _ j=>by omega⟩
  .obtain⟨g,e,n,u⟩:=q.1 h1
   exact⟨λid _=>by simp[g],λid c=>by simp[e] at c,λ_=>e,λf=>by simp[n] at f,λid c=>by simp[e] at c⟩
  .have g:=p.2 h1.1
   have e:=q.2 h1.2
   exact⟨λid c=>by simp[g] at c,λid c=>by simp[e] at c,λ_=>e,λ_=>g,λid c=>by simp[e] at c⟩
 .have:=abj.1 h _ (Q7 l j m t f)
  grind [Ud]
theorem Xn (hm:P.follows .mixedOrders=true) {call:jy} (f:mD P call) (B:n<=8000) {w:List Nat} {id:Nat} {ops:Array Oper} {draw:Bool} {y:DC} {run:AT} {e e':ES} {r:Exit} {h:Heap}
  (j:Ls P n w ops.toList draw=some y) (he:jW h e) (a:uu P call run y e=some (r,e')):
  ∃d,dy P n (.region id ops draw) e.T h r e'.T d/\jW d e'/\Calm e e' h d:=by
 unfold Ls at j
 split at j
 .simp at j
 .rename_i l C
  split at j
  .simp at j
  .have m:(group l).all wX=true:=by grind
   have o:en P n ops.toList ⟨w,false⟩ ops.toList=some (oN (group l)):=by rw[iw];exact C
   have key:∀p,uu P call run (.region p (group l)) e=some (r,e')->(draw=true->ox ops.toList=true/\p=F1 ops.toList (l.map λs=>jY P false s.b)) ->
     ∃d,dy P n (.region id ops draw) e.T h r e'.T d/\jW d e'/\Calm e e' h d:=by
    intro p a q
    simp only[uu,OG] at a
    split at a
    .rename_i D c t
     split at a
     .rename_i k
      simp only[aaV,abf] at a
      obtain⟨rfl,rfl⟩:=a
      obtain⟨z,d,E,A,hk,u,g⟩:=UA f B (group l) ops.toList e D h [] c o m he t
      subst E
      rw[iw] at g
      refine⟨d,?_,hk,u⟩
      cases F:draw with
      | false=>simpa using KW (id:=id) A
      | true =>
       obtain⟨h1,rfl⟩:=q F
       have v:xF ops.toList c:=Vg k (by simpa using g.1) (λi x r a hr=>by
        simp only[aaS,aa0] at a
        obtain⟨s,G,rfl⟩:=a
        exact g.2 i s r G hr)
       simpa using B2 hm (id:=id) A h1 v
     .simp at a
    .simp at a
   grind
theorem U2 (hm:P.follows .mixedOrders=true) {call:jy} (q:mD P call) {run:AT} (f:z6 P run):z6 P (uu P call run):=by
 intro n p c H j o e e' r h k he
 cases c with
 | skip =>
  simp[kD] at j;subst j
  obtain⟨rfl,rfl⟩:=k
  exact⟨h,.skip,he,Calm.refl _ _,λ_ h=>by simp at h⟩
 | region id ops draw =>
  obtain⟨I,a,b,d⟩:=Xn (id:=id) hm q o j he k
  grind
 | seq x y =>
  simp only[kD] at j
  split at j
  .rename_i a b h1 A
   simp at j;subst j
   simp only[uu,YM] at k
   split at k
   .rename_i s m
    obtain⟨g,l,i,c1,v⟩:=f n p x a h1 o e s .normal h m he
    obtain⟨t,E,u,c2,F⟩:=f n p y b A o s e' r g k i
    exact⟨t,l.seq E,u,c1.trans c2,λ_ h=>by simp at h⟩
   .obtain⟨g,l,i,c1,v⟩:=f n p x a h1 o e e' r h k he
    refine⟨g,l.Oi (λe=>?_),i,c1,λ_ h=>by simp at h⟩
    subst e
    grind
  .simp at j
 | cond J x y =>
  simp only[kD] at j
  split at j
  .rename_i a b h1 A
   simp at j;subst j
   simp only[uu,WW,SX.di] at k
   split at k
   .rename_i B
    obtain⟨g,l,i,c1,v⟩:=f n p x a h1 o e e' r h k he
    exact⟨g,.cond B l,i,c1,λ_ h=>by simp at h⟩
   .rename_i B
    obtain⟨g,l,i,c1,v⟩:=f n p y b A o e e' r h k he
    exact⟨g,.cond B l,i,c1,λ_ h=>by simp at h⟩
   .simp at k
  .simp at j
 | block id c =>
  simp only[kD,aa0] at j
  obtain⟨a,h1,rfl⟩:=j
  simp only[uu,Um] at k
  split at k
  .rename_i G s m
   simp only[aaV,abf] at k
   obtain⟨rfl,rfl⟩:=k
   obtain⟨g,l,i,c1,v⟩:=f n p c a h1 o e s G h m he
   exact⟨g,l.block,i,c1,λ_ h=>by simp at h⟩
  .simp at k
 | loop c =>
  have C:=j
  simp only[kD,aa0] at j
  obtain⟨a,h1,rfl⟩:=j
  simp only[uu,WN] at k
  split at k
  .rename_i s m
   obtain⟨g,l,i,c1,v⟩:=f n p c a h1 o e s .normal h m he
   obtain⟨t,E,u,c2,F⟩:=f n p (.loop c) (.loop a) C o s e' r g k i
   have w:=sr.step l (F c rfl)
   exact⟨t,.loop w,u,c1.trans c2,λc0 z=>by simp only[Code.loop.injEq] at z;subst z;exact w⟩
  .rename_i D
   obtain⟨g,l,i,c1,v⟩:=f n p c a h1 o e e' r h k he
   have w:=sr.out l (λe=>by subst e;exact absurd k (D e'))
   exact⟨g,.loop w,i,c1,λc0 z=>by simp only[Code.loop.injEq] at z;subst z;exact w⟩
 | exit id =>
  simp[kD] at j;subst j
  obtain⟨rfl,rfl⟩:=k
  exact⟨h,.exit,he,Calm.refl _ _,λ_ h=>by simp at h⟩
 | ret =>
  simp[kD] at j;subst j
  obtain⟨rfl,rfl⟩:=k
  exact⟨h,.ret,he,Calm.refl _ _,λ_ h=>by simp at h⟩
 | _=>simp[kD] at j
theorem Ip:∀(vs:List V) (i:Nat) (t:c8 V),i+vs.length<=8000->∀k,(pB vs i t).get .any k=if i<=k/\k<i+vs.length then vs.getD (k-i) .any else t.get .any k
 | [],i,t,h,k=>by
  grind [pB]
 | v::vs,i,t,h,k=>by
  simp only[aa3] at h
  rw[pB,Ip vs (i+1) _ (by omega),c8.pH _ _ _ _ _ _ (by simp only[deep];omega)]
  grind
theorem M3 (vs:List V) (h:vs.length<=8000):(pB vs 0 .nil).get .any=mT vs:=by
 funext k
 rw[Ip vs 0 .nil (by omega)]
 simp only[mT,ab4,true_and,abE,Nat.sub_zero]
 split
 .rfl
 .rw[aaP,abr (by omega)];rfl
theorem Xs {e:ES} {h:Heap} {r:ResultVar} {rest:List ResultVar} {l:List SR} (he:jW h e) (b:gN P (r::rest)=some l):∃s l',l=s::l'/\gN P rest=some l'/\∀v,VH s e=some v->vV P e.T h r=some v:=by
 cases r with
 | tmp t =>
  simp only[gN,aa0] at b
  obtain⟨l',h1,rfl⟩:=b
  exact⟨.tmp t,l',rfl,h1,λv c=>c⟩
 | cell a t =>
  simp only[gN] at b
  split at b
  .rename_i k l' h1 d
   simp at b;subst b
   refine⟨.cell a k,l',rfl,d,λv c=>?_⟩
   simp only[VH] at c
   simp only[vV,oM,zd h1]
   rw[he.1] at c
   grind
  .simp at b
theorem K9 {e:ES} {h:Heap} (he:jW h e):∀(rs:List ResultVar) (l:List SR) (vs:List V),gN P rs=some l->zr l e=some vs->nW P e.T h rs=some vs
 | [],l,vs,a,hw=>by simp[gN] at a;subst a;simp[zr] at hw;subst hw;rfl
 | r::rest,l,vs,a,hw=>by
  obtain⟨s,l',rfl,h1,d⟩:=Xs (e:=e) (h:=h) he a
  simp only[zr] at hw
  split at hw
  .rename_i v b f c
   simp at hw;subst hw
   simp[nW,d v f,K9 he rest l' b h1 c]
  .simp at hw
def sE (P:Program) (tab:List (FuncId × DF)):Prop:=∀p∈tab,∃fz,Lb P p.1 fz=some p.2
def vD (P:Program) (ext:BY):Prop:=∀g vs H t,ext g vs H=some t->ec P g=true/\∀h:Heap,h.view=H->bY P g vs h t h
theorem Mv {tab:List (FuncId × DF)} {ext:BY} (M:sE P tab) (x:vD P ext) {run:AT} (m:z6 P run):mD P (JL P tab ext run):=by
 intro g vs e v e' h b he
 unfold JL at b
 split at b
 .rename_i t o
  obtain⟨rfl,rfl⟩:=b
  obtain⟨h1,z⟩:=x _ _ _ _ o
  exact⟨h1,h,z h he.1.symm,he,λ_ _ _=>rfl,λ_ hw=>by simp at hw⟩
 .split at b
  .rename_i y F J
   have p:=List.mem_of_find?_eq_some J
   have A:y=g:=by
    have:=List.find?_some J
    exact acQ this
   subst A
   obtain⟨N,i⟩:=M _ p
   unfold Lb at i
   split at i
   .rename_i fn B
    split at i
    .rename_i c O
     split at i
     .rename_i K rs h1 z U
      simp at i;subst i
      unfold YH at b
      split at b
      .rename_i hlen C
       have hlen:=Nat.le_of_ble_eq_true hlen
       have C:=Nat.le_of_ble_eq_true C
       unfold YL at b
       split at b
       .rename_i v1 d q
        simp only[aaV,abf] at b
        unfold Yx at q
        have go:∀(r:Exit) (s:ES),(r=.ret∨r=.normal)->run K ⟨pB vs 0 .nil,e.H,e.n,[]⟩=some (r,s)->(zr rs s).map (λvs=>(zw vs,s))=some (v1,d) ->
          ∃f,bY P y vs h v1 f/\jW f d/\(∀id,id<h.length->¬ id∈d.w->f.view id=h.view id):=by
         intro r s hr D k
         simp only[aa0,abf] at k
         obtain⟨E,G,rfl,rfl⟩:=k
         obtain⟨f,x,u,I,_⟩:=m fn.ntmps N c K h1 C _ s r h D he
         have Q:(ES.T ⟨pB vs 0 .nil,e.H,e.n,[]⟩)=mT vs:=M3 vs (by omega)
         rw[Q] at x
         refine⟨f,bY.OU B O hlen x (by rcases hr with rfl | rfl<;>simp) ?_,u,λid j hw=>(I.2 id j hw).1⟩
         unfold Qn
         rw[K9 u _ _ _ z G]
         cases E with
         | nil=>rfl
         | cons a l=>cases l<;>rfl
        have done:(∃f,bY P y vs h v1 f/\jW f d/\(∀id,id<h.length->¬ id∈d.w->f.view id=h.view id)) ->
          ∃f,bY P y vs h v1 f/\jW f ⟨d.L,d.H,d.n,d.w.filter λid=>Nat.blt id e.n⟩/\(∀id,id<h.length->¬ id∈d.w.filter (λid=>Nat.blt id e.n)->f.view id=h.view id)/\∀id,id∈d.w.filter (λid=>Nat.blt id e.n)->id<h.length:=by
         rintro⟨f,R,k2,S⟩
         refine⟨f,R,k2,λid j hw=>S id j (λhm=>hw ?_),λid hw=>?_⟩
         .rw[ab7]
          exact⟨hm,by rw[he.2];exact Nat.ble_eq_true_of_le j⟩
         .rw[ab7] at hw
          have:=Nat.le_of_ble_eq_true hw.2
          rw[he.2] at this;exact this
        grind
       .grind
      .grind
     .simp at i
    .simp at i
   .simp at i
  .grind
theorem Oh (hm:P.follows .mixedOrders=true) {tab:List (FuncId × DF)} {ext:BY} (a:sE P tab) (b:vD P ext):∀k,z6 P (Kc P tab ext k)
 | 0=>λn f c g i j e e' r h hr he=>by simp[Kc] at hr
 | k+1=>by
  have d:=Oh hm a b k
  have:=U2 hm (Mv a b d) d
  exact this
end
end
end Gv

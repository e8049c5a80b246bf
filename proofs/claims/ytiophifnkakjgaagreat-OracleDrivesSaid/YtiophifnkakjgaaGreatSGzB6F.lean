/-
  Part 6 of the proof: what the machine does and what the functions answer.
  Conditions: those that each lemma names.
-/
import Derived.Test.YtiophifnkakjgaaGreatSGzB6E
set_option linter.unusedSimpArgs false
set_option linter.unusedVariables false
set_option maxRecDepth 100000
set_option maxHeartbeats 20000000
namespace Gv
open Go Go.Proofs
structure Term where
 name:ByteArray
 level:Int
 assoc:Int
structure aN where
 left:Int
 right:List Int
 prec:Int
structure ae where
 ai:List Term
 ao:List ByteArray
 rules:List aN
 start:Int
instance:Inhabited Term:=⟨⟨.empty,0,0⟩⟩
instance:Inhabited aN:=⟨⟨0,[],0⟩⟩
def cO (t:Term):List V:=[gs t.name,gi t.level,gi t.assoc]
def aW (r:aN):List V:=[gi r.left,encI r.right,gi r.prec]
def encS (l:List ByteArray):V:=.aS (l.map λs=>[gs s])
def ag (g:ae):List V:=[.aS (g.ai.map cO),encS g.ao,.aS (g.rules.map aW),gi g.start]
theorem fq {α:Type} (l:List α) (f:α->List V) (h:∀ x∈l,∀ v∈f x,Tree v):Tree (.aS (l.map f)):=by
 refine .aS _ λi j hi a=>?_
 simp only[Vl] at hi
 have e:(l.map f).getD i []=f l[i]:=by simp[U5,hi]
 rw[e] at a ⊢
 have b:(f l[i]).getD j .any=(f l[i])[j]:=by simp[U5,a]
 rw[b]
 exact h _ (Vg _) _ (Vg _)
theorem bz (cs:List V) (h:∀ v∈cs,Tree v):Tree (.agg cs):=by
 refine .agg _ λi hi=>?_
 have a:cs.getD i .any=cs[i]:=by simp[U5,hi]
 rw[a];exact h _ (Vg _)
theorem DB (l:List ByteArray):Tree (encS l):=fq _ _ λx _ v a=>by simp at a;subst a;exact .val _
theorem El (t:Term):∀ v∈cO t,Tree v:=by intro v a;simp[cO] at a;rcases a with rfl | rfl | rfl <;> exact .val _
theorem jh (r:aN):∀ v∈aW r,Tree v:=by
 intro v a;simp[aW] at a;rcases a with rfl | rfl | rfl
 .exact .val _
 .exact eM _
 .exact .val _
theorem bE (g:ae):∀ v∈ag g,Tree v:=by
 intro v a;simp[ag] at a;rcases a with rfl | rfl | rfl | rfl
 .exact fq _ _ λx _=>El x
 .exact DB _
 .exact fq _ _ λx _=>jh x
 .exact .val _
def bD (x:Int):Prop:=-9223372036854775808<=x/\x<=9223372036854775807
structure ae.Ok (g:ae):Prop where
 ai:aH g.ai
 ao:aH g.ao
 rules:aH g.rules
 start:bD g.start
 term:∀ t∈g.ai,bD t.level/\bD t.assoc
 al:∀ r∈g.rules,bD r.left/\bD r.prec/\aH r.right/\∀ x∈r.right,bD x
def gB (g:ae) (s:Int):Bool:=if 0<=s then decide (s < g.ai.length) else decide (-1 - s < g.ao.length)
def qU:SF:=⟨af [ab [cd 2 0,bu 4 false],af [ab [aa 5 1,aE 6 .geq 5 0],bg 6 (af [ab [aa 7 1,au 8 0 2,aj 9 8,aP 10 9,aV 11 .lss 7 10,aa 4 11],.ret])],ab [aa 12 1,((some 13),.op (.arith .sub (.val (.val (.int .i64 (-1)))) (.tmp 12))),au 14 1 2,aj 15 14,aP 16 15,aV 17 .lss 13 16,aa 4 17],.ret],
 [.tmp 4],18⟩
theorem wb:aQ Tryz.prog 74 [2]=some qU:=by kernel_rfl
theorem S5 (g:ae) (s:Int) (a:bD s) (H:View):aw Tryz.prog 74 [.agg (ag g),gi s] H λr H'=>r=gb (gB g s)/\H'=H:=by
 refine aw.of mixed wb ?_
 obtain⟨h1,b⟩:=a
 simp(disch:=omega)only[↓wr,seval,wq,qU,ag,encS]
 apply ah.dec<;>intro h
 .simp(disch:=omega)only[↓wr,seval,wq]
  simp[gB,show (0:Int)<=s from h]
 .simp(disch:=omega)only[↓wr,seval,wq]
  simp[gB,show ¬ (0:Int)<=s from h]
theorem Nq (g:ae) (s:Int) (b:bD s):ay Tryz.prog 74 [.agg (ag g),gi s] (gb (gB g s)) :=
 ay.of (by
  intro v a;simp at a
  rcases a with rfl | rfl
  .exact bz _ (bE g)
  .exact .val _) ((S5 g s b _).mono λr H' h c _=>by rw[h.1];exact .tree _ (.val _))
def nG (g:ae):Bool:=decide (40 < g.ai.length) || decide (40 < g.ao.length) || decide (60 < g.rules.length) || g.rules.any λr=>decide (20 < r.right.length)
def mO:SC :=
 af [af [ab [aa 20 3,au 21 2 1,aj 22 21,aP 23 22,aV 24 .lss 20 23],bW 24 (.exit 0)],.block 1 (af [ab [au 27 2 1,aj 28 27,aa 29 3,aM 30 3 28 29,au 31 1 30,aj 32 31,aP 33 32,aE 34 .gtr 33 20],bg 34 (af [ab [bu 2 true],.ret])]),ab [aa 25 3,aE 26 .add 25 1,aa 3 26]]
def oM:SF:=⟨af [ab [cd 1 0,bu 2 false],af [.region false [⟨none,[au 4 0 1,aj 5 4,aP 6 5,aE 7 .gtr 6 40,aa 8 7]⟩,⟨(some (8,false)),[au 9 1 1,aj 10 9,aP 11 10,aE 12 .gtr 11 40]⟩,⟨none,[bP 13 8 12,aa 14 13]⟩,⟨(some (14,false)),[au 15 2 1,aj 16 15,aP 17 16,aE 18 .gtr 17 60]⟩,⟨none,[bP 19 14 18]⟩],bg 19 (af [ab [bu 2 true],.ret])],af [ab [aT 3 0],bX 0 mO],ab [bu 2 false],.ret],
 [.tmp 2],35⟩
theorem tU:aQ Tryz.prog 14 [1]=some oM:=by kernel_rfl
theorem PQ (g:ae) (H:View):aw Tryz.prog 14 [.agg (ag g)] H λr H'=>r=gb (nG g)/\H'=H:=by
 refine aw.of mixed tU ?_
 simp(disch:=omega)only[↓wr,seval,wq,oM,ag,encS]
 apply ah.dec<;>intro h1
 .simp(disch:=omega)only[↓wr,seval,wq]
  simp[nG,show 40 < g.ai.length by omega]
 .simp(disch:=omega)only[↓wr,seval,wq]
  apply ah.dec<;>intro d
  .simp(disch:=omega)only[↓wr,seval,wq]
   simp[nG,show 40 < g.ao.length by omega]
  .simp(disch:=omega)only[↓wr,seval,wq]
   apply ah.dec<;>intro f
   .simp(disch:=omega)only[↓wr,seval,wq]
    simp[nG,show 60 < g.rules.length by omega]
   .simp(disch:=omega)only[↓wr,seval,wq]
    refine bc.intro (λk T H'=>∃ i:Nat,i+k=g.rules.length/\(∀ r∈g.rules.take i,¬ 20 < r.right.length)/\T 1=.aF (ag g) 0/\T 3=gi i/\H'=H) g.rules.length ?_ ?_
    .exact⟨0,by omega,by simp,rfl,rfl,rfl⟩
    .rintro k T H' ⟨i,hk,hi,a,b,rfl⟩
     simp(disch:=omega)only[↓wr,seval,wq,mO,a,b,ag]
     apply ah.dec<;>intro h
     .have c:g.rules[i]?=some (g.rules[i]'(by omega)):=U6 (by omega)
      simp(disch:=omega)only[↓wr,seval,wq,a,b,ag,aW,encI,U9,c,Ve]
      apply ah.dec<;>intro j
      .simp(disch:=omega)only[↓wr,seval,wq]
       have:g.rules.any (λr=>decide (20 < r.right.length))=true:=by
        simp only[WC,Vj]
        exact⟨g.rules[i]'(by omega),Vg _,by omega⟩
       simp[nG,this]
      .simp(disch:=omega)only[↓wr,seval,wq,a,b]
       refine⟨k - 1,by omega,i+1,by omega,?_,rfl,rfl⟩
       intro r hr
       rw[Vs,c] at hr
       simp only[Option.toList_some,VK,Wh] at hr
       rcases hr with hr | rfl
       .exact hi r hr
       .omega
     .simp(disch:=omega)only[↓wr,seval,wq,a,b]
      have e:i=g.rules.length:=by omega
      rw[Vn (by omega)] at hi
      have:g.rules.any (λr=>decide (20 < r.right.length))=false:=by
       simp only[List.any_eq_false,Vj];exact hi
      simp only[nG,this]
      simp;omega
def cp (l:List Int) (is:List Bool) (ai:Bool):Bool:=l.all λs=>if 0<=s then ai else is.getD (-1 - s).toNat false
def oJ:SC :=
 af [af [ab [aa 8 7,aa 9 0,aP 10 9,aV 11 .lss 8 10],bW 11 (.exit 0)],.block 1 (af [.region false [⟨none,[aa 14 0,aa 15 7,aM 16 1 14 15,aj 17 16,aE 18 .geq 17 0,aa 19 18]⟩,⟨(some (19,true)),[aa 20 2,cb 21 20]⟩,⟨none,[c8 22 19 21,aa 23 22]⟩,⟨(some (23,false)),[aa 24 0,aa 25 7,aM 26 1 24 25,aj 27 26,aE 28 .lss 27 0,aa 29 28]⟩,⟨(some (29,true)),[aa 30 1,aa 31 0,aa 32 7,aM 33 1 31 32,aj 34 33,((some 35),.op (.arith .sub (.val (.val (.int .i64 (-1)))) (.tmp 34))),aM 36 1 30 35,aj 37 36,cb 38 37]⟩,⟨(some (23,false)),[c8 39 29 38]⟩,⟨none,[bP 40 23 39]⟩],bg 40 (af [ab [bu 6 false],.ret])]),ab [aa 12 7,aE 13 .add 12 1,aa 7 13]]
def qS:SF:=⟨af [ab [bu 6 false],af [ab [aT 7 0],bX 0 oJ],ab [bu 6 true],.ret],
 [.tmp 6],41⟩
theorem vF:aQ Tryz.prog 95 []=some qS:=by kernel_rfl
theorem SA (l:List Int) (is:List Bool) (t:Bool) (p:aH l) (q:∀ s∈l,bD s/\(s < 0->-1 - s < is.length)) (H:View) :
  aw Tryz.prog 95 [encI l,bK is,gb t] H λr H'=>r=gb (cp l is t)/\H'=H:=by
 refine aw.of mixed vF ?_
 unfold aH at p
 simp(disch:=omega)only[↓wr,seval,wq,qS]
 refine bc.intro (λk T H'=>∃ i:Nat,i+k=l.length/\cp (l.take i) is t=true/\T 0=encI l/\T 1=bK is/\T 2=gb t/\T 7=gi i/\H'=H) l.length ?_ ?_
 .exact⟨0,by omega,by simp[cp],rfl,rfl,rfl,rfl,rfl⟩
 .rintro k T H' ⟨i,hk,hi,d,h1,f,g,rfl⟩
  simp(disch:=omega)only[↓wr,seval,wq,oJ,d,h1,f,g,encI]
  apply ah.dec<;>intro u
  .have h:l[i]?=some (l[i]'(by omega)):=U6 (by omega)
   have hm:l[i]'(by omega)∈l:=Vg _
   generalize l[i]'(by omega)=s at h hm
   obtain⟨⟨v,w⟩,x⟩:=q s hm
   have a:cp (l.take (i+1)) is t=(if 0<=s then t else is.getD (-1 - s).toNat false):=by
    rw[Vs,h]
    simp only[cp,Option.toList_some,List.all_append,Wb,List.all_nil,Bool.and_true] at hi ⊢
    rw[hi,V3]
   have c:(if 0<=s then t else is.getD (-1 - s).toNat false)=false->cp l is t=false:=by
    intro j
    simp only[cp,List.all_eq_false]
    exact⟨s,hm,by simpa using j⟩
   simp(disch:=omega)only[↓wr,seval,wq,d,h1,f,g,encI,U9,h,Ve]
   apply ah.dec<;>intro n
   .rw[Va (show 0<=s from n)] at a c
    cases t with
    | true =>
     simp(disch:=omega)only[↓wr,seval,wq,d,h1,f,g,encI,U9,h,Ve]
     refine ah.dec (λm=>absurd m (by omega)) (λ_=>?_)
     simp(disch:=omega)only[↓wr,seval,wq,d,h1,f,g,encI,bK,U9,h,Ve]
     exact⟨k - 1,by omega,i+1,by omega,a,rfl⟩
    | false =>
     simp(disch:=omega)only[↓wr,seval,wq,d,h1,f,g,encI,U9,h,Ve]
     rw[c rfl]
   .rw[U8 (show ¬ 0<=s from n)] at a c
    simp(disch:=omega)only[↓wr,seval,wq,d,h1,f,g,encI,U9,h,Ve]
    refine ah.dec (λm=>?_) (λm=>absurd m (by omega))
    have j:is[(-1 - s).toNat]?=some (is[(-1 - s).toNat]'(by omega)):=U6 (by omega)
    have o:is.getD (-1 - s).toNat false=is[(-1 - s).toNat]'(by omega):=by simp[U5,j]
    rw[o] at a c
    generalize is[(-1 - s).toNat]'(by omega)=b at j a c
    simp(disch:=omega)only[↓wr,seval,wq,d,h1,f,g,encI,bK,U9,h,j,Ve]
    cases b with
    | true =>
     simp(disch:=omega)only[↓wr,seval,wq,d,h1,f,g,encI,bK,U9,h,j,Ve]
     exact⟨k - 1,by omega,i+1,by omega,a,rfl⟩
    | false =>
     simp(disch:=omega)only[↓wr,seval,wq,d,h1,f,g,encI,bK,U9,h,j,Ve]
     rw[c rfl]
  .simp(disch:=omega)only[↓wr,seval,wq,d,h1,f,g]
   have e:i=l.length:=by omega
   rw[Vn (by omega)] at hi
   rw[hi]
abbrev gy (x:Int):V:=.val (.int .u8 x)
def u9 (c:Int):Bool:=(decide (97<=c) && decide (c<=122)) || (decide (65<=c) && decide (c<=90)) || c == 95
def nA (c:Int):Bool:=u9 c || (decide (48<=c) && decide (c<=57)) || c == 46
def ox:SF:=⟨af [ab [bu 2 false],.region false [⟨none,[aa 3 0,((some 4),.op (.arith .geq (.tmp 3) (.val (.val (.int .u8 97))))),aa 5 4]⟩,⟨(some (5,true)),[aa 6 0,((some 7),.op (.arith .leq (.tmp 6) (.val (.val (.int .u8 122)))))]⟩,⟨none,[c8 8 5 7,aa 9 8]⟩,⟨(some (9,false)),[aa 10 0,((some 11),.op (.arith .geq (.tmp 10) (.val (.val (.int .u8 65))))),aa 12 11]⟩,⟨(some (12,true)),[aa 13 0,((some 14),.op (.arith .leq (.tmp 13) (.val (.val (.int .u8 90)))))]⟩,⟨(some (9,false)),[c8 15 12 14]⟩,⟨none,[bP 16 9 15,aa 17 16]⟩,⟨(some (17,false)),[aa 18 0,((some 19),.op (.arith .eql (.tmp 18) (.val (.val (.int .u8 95)))))]⟩,⟨none,[bP 20 17 19,aa 2 20]⟩],.ret],
 [.tmp 2],21⟩
theorem tQ:aQ Tryz.prog 233 []=some ox:=by kernel_rfl
def ov:SF:=⟨af [ab [bu 2 false],.region false [⟨none,[aa 3 0,ba 4 233 [3],aa 5 4]⟩,⟨(some (5,false)),[aa 6 0,((some 7),.op (.arith .geq (.tmp 6) (.val (.val (.int .u8 48))))),aa 8 7]⟩,⟨(some (8,true)),[aa 9 0,((some 10),.op (.arith .leq (.tmp 9) (.val (.val (.int .u8 57)))))]⟩,⟨(some (5,false)),[c8 11 8 10]⟩,⟨none,[bP 12 5 11,aa 13 12]⟩,⟨(some (13,false)),[aa 14 0,((some 15),.op (.arith .eql (.tmp 14) (.val (.val (.int .u8 46)))))]⟩,⟨none,[bP 16 13 15,aa 2 16]⟩],.ret],
 [.tmp 2],17⟩
theorem tH:aQ Tryz.prog 234 []=some ov:=by kernel_rfl
theorem Qn (c:Int) (H:View):aw Tryz.prog 233 [gy c] H λr H'=>r=gb (u9 c)/\H'=H:=by
 refine aw.of mixed tQ ?_
 repeat' (first | ((first|apply ah.dec|apply ah.eq|apply ah.ne|apply ah.split)<;>intro)|(simp(disch:=omega)only[↓wr,seval,wq,ox]))
 all_goals (congr 2;simp only[u9];grind)
theorem FE (c:Int):ay Tryz.prog 233 [gy c] (gb (u9 c)) :=
 ay.of (by intro v a;simp at a;subst a;exact .val _) ((Qn c _).mono λr H' h b _=>by rw[h.1];exact .tree _ (.val _))
theorem Ps (c:Int) (H:View):aw Tryz.prog 234 [gy c] H λr H'=>r=gb (nA c)/\H'=H:=by
 refine aw.of mixed tH ?_
 repeat' (first | ((first|apply ah.dec|apply ah.eq|apply ah.ne|apply ah.split)<;>intro)|(simp(disch:=omega)only[↓wr,seval,wq,ov]))
 refine av.pure (FE c) ?_
 repeat' (first | ((first|apply ah.dec|apply ah.eq|apply ah.ne|apply ah.split)<;>intro)|(simp(disch:=omega)only[↓wr,seval,wq]))
 all_goals (congr 2;simp only[nA];grind)
theorem Qp (c:Int):ay Tryz.prog 234 [gy c] (gb (nA c)) :=
 ay.of (by intro v a;simp at a;subst a;exact .val _) ((Ps c _).mono λr H' h b _=>by rw[h.1];exact .tree _ (.val _))
def fP (l:List Int):Bool:=decide (0 < l.length) && decide (l.length<=20) && (match l with | c :: _=>u9 c | []=>false) && l.all nA
def nE:SC :=
 af [af [ab [aa 18 3,aa 19 0,((some 20),.op (.pw (.tmp 19))),aV 21 .lss 18 20],bW 21 (.exit 0)],.block 1 (af [ab [aa 24 0,aa 25 3,((some 26),.op (.hZ (.tmp 24) (.tmp 25))),ba 27 234 [26],cb 28 27],bg 28 (af [ab [bu 2 false],.ret])]),ab [aa 22 3,aE 23 .add 22 1,aa 3 23]]
def qA:SF:=⟨af [ab [bu 2 false],af [.region false [⟨none,[aa 4 0,((some 5),.op (.pw (.tmp 4))),aE 6 .eql 5 0,aa 7 6]⟩,⟨(some (7,false)),[aa 8 0,((some 9),.op (.pw (.tmp 8))),aE 10 .gtr 9 20]⟩,⟨none,[bP 11 7 10,aa 12 11]⟩,⟨(some (12,false)),[aa 13 0,((some 14),.op (.hZ (.tmp 13) (.val (.val (.int .i64 0))))),ba 15 233 [14],cb 16 15]⟩,⟨none,[bP 17 12 16]⟩],bg 17 (af [ab [bu 2 false],.ret])],af [ab [aT 3 0],bX 0 nE],ab [bu 2 true],.ret],
 [.tmp 2],29⟩
theorem u5:aQ Tryz.prog 172 []=some qA:=by kernel_rfl
theorem MH (s:ByteArray) (H:View):aw Tryz.prog 172 [gs s] H λr H'=>r=gb (fP (fh s))/\H'=H:=by
 refine aw.of mixed u5 ?_
 repeat' (first | ((first|apply ah.dec|apply ah.eq|apply ah.ne|apply ah.split)<;>intro)|(simp(disch:=omega)only[↓wr,seval,wq,qA,eu]))
 .rename_i h
  congr 2;simp[fP,show (fh s).length=0 by omega]
 .rename_i h
  congr 2;simp[fP,show ¬ (fh s).length<=20 by omega]
 .rename_i h1 g
  cases a:fh s with
  | nil=>simp[a] at h1
  | cons c l =>
   repeat' (first | ((first|apply ah.dec|apply ah.eq|apply ah.ne|apply ah.split)<;>intro)|(simp(disch:=omega)only[↓wr,seval,wq,a,Vu,eu]))
   refine av.pure (FE c) ?_
   repeat' (first | ((first|apply ah.dec|apply ah.eq|apply ah.ne|apply ah.split)<;>intro)|(simp(disch:=omega)only[↓wr,seval,wq,a,Vu,eu]))
   .rename_i j
    refine bc.intro (λk T H'=>∃ i:Nat,i+k=(c :: l).length/\((c :: l).take i).all nA=true/\T 0=gs s/\T 3=gi i/\H'=H) (c :: l).length ?_ ?_
    .exact⟨0,by omega,by simp,rfl,rfl,rfl⟩
    .rintro k T H' ⟨i,hk,hi,b,e,rfl⟩
     rw[a] at h1 g
     simp(disch:=omega)only[↓wr,seval,wq,nE,b,e,eu,a]
     apply ah.dec<;>intro m
     .simp only[Vm] at m hk g
      have f:(c :: l)[i]?=some ((c :: l)[i]'(by simp;omega)):=U6 (by simp;omega)
      have hm:(c :: l)[i]'(by simp;omega)∈c :: l:=Vg _
      generalize (c :: l)[i]'(by simp;omega)=d at f hm
      simp(disch:=omega)only[↓wr,seval,wq,b,e,eu,a,f]
      refine av.pure (Qp d) ?_
      repeat' (first | ((first|apply ah.dec|apply ah.eq|apply ah.ne|apply ah.split)<;>intro)|(simp(disch:=omega)only[↓wr,seval,wq,b,e,eu,a,f]))
      .rename_i n
       refine⟨k - 1,by omega,i+1,by omega,?_,rfl⟩
       rw[Vs,f]
       simp only[Option.toList_some,List.all_append,hi,Wb,n,List.all_nil,Bool.and_self]
      .rename_i n
       congr 2
       have:(c :: l).all nA=false:=by
        rw[List.all_eq_false];exact⟨d,hm,by simp[n]⟩
       simp only[fP,this,W7]
     .simp(disch:=omega)only[↓wr,seval,wq,b,e]
      simp only[Vm] at m hk g
      rw[Vn (by simp;omega)] at hi
      congr 2
      simp only[fP,hi,Vm]
      simp[j];omega
   .rename_i j
    congr 2;simp[fP,j]
def mh:List Int->Bool
 | [a,b,c]=>a == 39 && c == 39 && decide (32<=b) && decide (b<=126) && b != 39 && b != 92
 | [a,b,c,d]=>a == 39 && d == 39 && b == 92 && (c == 110 || c == 116 || c == 92 || c == 39)
 | _=>false
theorem Pf {l:List Int} (a:l.length≠3) (b:l.length≠4):mh l=false:=by
 match l,a,b with
 | [],_,_=>rfl
 | [_],_,_=>rfl
 | [_,_],_,_=>rfl
 | [_,_,_],a,_=>exact absurd rfl a
 | [_,_,_,_],_,b=>exact absurd rfl b
 | _ :: _ :: _ :: _ :: _ :: _,_,_=>rfl
theorem Uz {α:Type} {l:List α} (h:l.length=3):∃ a b c,l=[a,b,c]:=by
 match l,h with
 | [a,b,c],_=>exact⟨a,b,c,rfl⟩
theorem T0 {α:Type} {l:List α} (h:l.length=4):∃ a b c d,l=[a,b,c,d]:=by
 match l,h with
 | [a,b,c,d],_=>exact⟨a,b,c,d,rfl⟩
def mR:SF:=⟨af [ab [bu 2 false],af [ab [aa 3 0,((some 4),.op (.pw (.tmp 3))),aE 5 .eql 4 3],bg 5 (af [.region false [⟨none,[aa 6 0,((some 7),.op (.hZ (.tmp 6) (.val (.val (.int .i64 0))))),((some 8),.op (.arith .eql (.tmp 7) (.val (.val (.int .u8 39))))),aa 9 8]⟩,⟨(some (9,true)),[aa 10 0,((some 11),.op (.hZ (.tmp 10) (.val (.val (.int .i64 2))))),((some 12),.op (.arith .eql (.tmp 11) (.val (.val (.int .u8 39)))))]⟩,⟨none,[c8 13 9 12,aa 14 13]⟩,⟨(some (14,true)),[aa 15 0,((some 16),.op (.hZ (.tmp 15) (.val (.val (.int .i64 1))))),((some 17),.op (.arith .geq (.tmp 16) (.val (.val (.int .u8 32)))))]⟩,⟨none,[c8 18 14 17,aa 19 18]⟩,⟨(some (19,true)),[aa 20 0,((some 21),.op (.hZ (.tmp 20) (.val (.val (.int .i64 1))))),((some 22),.op (.arith .leq (.tmp 21) (.val (.val (.int .u8 126)))))]⟩,⟨none,[c8 23 19 22,aa 24 23]⟩,⟨(some (24,true)),[aa 25 0,((some 26),.op (.hZ (.tmp 25) (.val (.val (.int .i64 1))))),((some 27),.op (.arith .neq (.tmp 26) (.val (.val (.int .u8 39)))))]⟩,⟨none,[c8 28 24 27,aa 29 28]⟩,⟨(some (29,true)),[aa 30 0,((some 31),.op (.hZ (.tmp 30) (.val (.val (.int .i64 1))))),((some 32),.op (.arith .neq (.tmp 31) (.val (.val (.int .u8 92)))))]⟩,⟨none,[c8 33 29 32,aa 2 33]⟩],.ret])],.region false [⟨none,[aa 34 0,((some 35),.op (.pw (.tmp 34))),aE 36 .eql 35 4,aa 37 36]⟩,⟨(some (37,true)),[aa 38 0,((some 39),.op (.hZ (.tmp 38) (.val (.val (.int .i64 0))))),((some 40),.op (.arith .eql (.tmp 39) (.val (.val (.int .u8 39)))))]⟩,⟨none,[c8 41 37 40,aa 42 41]⟩,⟨(some (42,true)),[aa 43 0,((some 44),.op (.hZ (.tmp 43) (.val (.val (.int .i64 3))))),((some 45),.op (.arith .eql (.tmp 44) (.val (.val (.int .u8 39)))))]⟩,⟨none,[c8 46 42 45,aa 47 46]⟩,⟨(some (47,true)),[aa 48 0,((some 49),.op (.hZ (.tmp 48) (.val (.val (.int .i64 1))))),((some 50),.op (.arith .eql (.tmp 49) (.val (.val (.int .u8 92)))))]⟩,⟨none,[c8 51 47 50,aa 52 51]⟩,⟨(some (52,true)),[aa 53 0,((some 54),.op (.hZ (.tmp 53) (.val (.val (.int .i64 2))))),((some 55),.op (.arith .eql (.tmp 54) (.val (.val (.int .u8 110))))),aa 56 55]⟩,⟨(some (56,false)),[aa 57 0,((some 58),.op (.hZ (.tmp 57) (.val (.val (.int .i64 2))))),((some 59),.op (.arith .eql (.tmp 58) (.val (.val (.int .u8 116)))))]⟩,⟨(some (52,true)),[bP 60 56 59,aa 61 60]⟩,⟨(some (61,false)),[aa 62 0,((some 63),.op (.hZ (.tmp 62) (.val (.val (.int .i64 2))))),((some 64),.op (.arith .eql (.tmp 63) (.val (.val (.int .u8 92)))))]⟩,⟨(some (52,true)),[bP 65 61 64,aa 66 65]⟩,⟨(some (66,false)),[aa 67 0,((some 68),.op (.hZ (.tmp 67) (.val (.val (.int .i64 2))))),((some 69),.op (.arith .eql (.tmp 68) (.val (.val (.int .u8 39)))))]⟩,⟨(some (52,true)),[bP 70 66 69]⟩,⟨none,[c8 71 52 70,aa 2 71]⟩],.ret],
 [.tmp 2],72⟩
theorem sm:aQ Tryz.prog 232 []=some mR:=by kernel_rfl
def oL:SF:=⟨af [ab [bu 2 false],.region false [⟨none,[aa 3 0,ba 4 172 [3],aa 5 4]⟩,⟨(some (5,false)),[aa 6 0,ba 7 232 [6]]⟩,⟨none,[bP 8 5 7,aa 2 8]⟩],.ret],
 [.tmp 2],9⟩
theorem tE:aQ Tryz.prog 169 []=some oL:=by kernel_rfl
theorem P7 (s:ByteArray) (H:View):aw Tryz.prog 232 [gs s] H λr H'=>r=gb (mh (fh s))/\H'=H:=by
 refine aw.of mixed sm ?_
 simp(disch:=omega)only[↓wr,seval,wq,mR,eu]
 apply ah.eq<;>intro h
 .obtain⟨a,b,c,e⟩:=Uz (l:=fh s) (by omega)
  repeat' (first | ((first|apply ah.dec|apply ah.eq|apply ah.ne|apply ah.split)<;>intro)|(simp(disch:=omega)only[↓wr,seval,wq,e,Vu,VW]))
  all_goals (congr 2;simp only[mh];grind)
 .simp(disch:=omega)only[↓wr,seval,wq,eu]
  apply ah.eq<;>intro f
  .obtain⟨a,b,c,d,e⟩:=T0 (l:=fh s) (by omega)
   repeat' (first | ((first|apply ah.dec|apply ah.eq|apply ah.ne|apply ah.split)<;>intro)|(simp(disch:=omega)only[↓wr,seval,wq,e,Vu,VW]))
   all_goals (congr 2;simp only[mh];grind)
  .repeat' (first | ((first|apply ah.dec|apply ah.eq|apply ah.ne|apply ah.split)<;>intro)|(simp(disch:=omega)only[↓wr,seval,wq,eu]))
   rw[Pf (by omega) (by omega)]
theorem oZ (s:ByteArray):∀ v∈[gs s],Tree v:=by intro v a;simp at a;subst a;exact .val _
theorem Dt (s:ByteArray):ay Tryz.prog 172 [gs s] (gb (fP (fh s))) :=
 ay.of (oZ s) ((MH s _).mono λr H' h a _=>by rw[h.1];exact .tree _ (.val _))
theorem P6 (s:ByteArray):ay Tryz.prog 232 [gs s] (gb (mh (fh s))) :=
 ay.of (oZ s) ((P7 s _).mono λr H' h a _=>by rw[h.1];exact .tree _ (.val _))
def pO (l:List Int):Bool:=fP l || mh l
theorem Kr (s:ByteArray) (H:View):aw Tryz.prog 169 [gs s] H λr H'=>r=gb (pO (fh s))/\H'=H:=by
 refine aw.of mixed tE ?_
 simp(disch:=omega)only[↓wr,seval,wq,oL]
 refine av.pure (Dt s) ?_
 repeat' (first | ((first|apply ah.dec|apply ah.eq|apply ah.ne|apply ah.split)<;>intro)|(simp(disch:=omega)only[↓wr,seval,wq]))
 .rename_i h;simp[pO,h]
 .rename_i h
  refine av.pure (P6 s) ?_
  repeat' (first | ((first|apply ah.dec|apply ah.eq|apply ah.ne|apply ah.split)<;>intro)|(simp(disch:=omega)only[↓wr,seval,wq]))
  simp[pO,h]
theorem K6 (s:ByteArray):ay Tryz.prog 169 [gs s] (gb (pO (fh s))) :=
 ay.of (oZ s) ((Kr s _).mono λr H' h a _=>by rw[h.1];exact .tree _ (.val _))
def nU (s:ByteArray):List ByteArray->Int->Int
 | [],_=>-1
 | x :: l,i=>if jj x s=true then i else nU s l (i+1)
def l5 (g:ae) (s:ByteArray):Int:=nU s (g.ai.map Term.name) 0
def xC (g:ae) (s:ByteArray):Int:=nU s g.ao 0
theorem e9 {α:Type} {l:List α} {i:Nat} (h:i < l.length):l.drop i=l[i] :: l.drop (i+1):=VL h
theorem Hl (g:ae) (s:ByteArray):∀ v∈[V.agg (ag g),gs s],Tree v:=by
 intro v a;simp at a
 rcases a with rfl | rfl
 .exact bz _ (bE g)
 .exact .val _
theorem eP (g:ae):∀ v∈[V.agg (ag g)],Tree v:=by intro v a;simp at a;subst a;exact bz _ (bE g)
theorem Ge (g:ae) (x:Int):∀ v∈[V.agg (ag g),gi x],Tree v:=by
 intro v a;simp at a
 rcases a with rfl | rfl
 .exact bz _ (bE g)
 .exact .val _
theorem ay.val {P:Program} {f:FuncId} {vs:List V} {x:Value} (a:∀ v∈vs,Tree v) (h:∀ H,aw P f vs H λr _=>r=.val x):ay P f vs (.val x) :=
 ay.of a ((h _).mono λr H' e b _=>by rw[e];exact .tree _ (.val _))
def nV:SC :=
 af [af [ab [aa 6 5,au 7 0 2,aj 8 7,aP 9 8,aV 10 .lss 6 9],bW 10 (.exit 0)],.block 1 (af [ab [au 13 0 2,aj 14 13,aa 15 5,aM 16 3 14 15,au 17 0 16,aj 18 17,aa 19 1,((some 20),.op (.xR .eql (.tmp 18) (.tmp 19)))],bg 20 (af [ab [aa 21 5,aa 4 21],.ret])]),ab [aa 11 5,aE 12 .add 11 1,aa 5 12]]
def pN:SF:=⟨af [ab [cd 2 0,aT 4 0],af [ab [aT 5 0],bX 0 nV],ab [aT 4 (-1)],.ret],
 [.tmp 4],22⟩
theorem uP:aQ Tryz.prog 170 [2]=some pN:=by kernel_rfl
def oO:SC :=
 af [af [ab [aa 6 5,au 7 1 2,aj 8 7,aP 9 8,aV 10 .lss 6 9],bW 10 (.exit 0)],.block 1 (af [ab [au 13 1 2,aj 14 13,aa 15 5,aM 16 1 14 15,aj 17 16,aa 18 1,((some 19),.op (.xR .eql (.tmp 17) (.tmp 18)))],bg 19 (af [ab [aa 20 5,aa 4 20],.ret])]),ab [aa 11 5,aE 12 .add 11 1,aa 5 12]]
def qR:SF:=⟨af [ab [cd 2 0,aT 4 0],af [ab [aT 5 0],bX 0 oO],ab [aT 4 (-1)],.ret],
 [.tmp 4],21⟩
theorem vK:aQ Tryz.prog 150 [2]=some qR:=by kernel_rfl
def mZ:SC :=
 af [af [ab [aa 8 6,au 9 0 2,aj 10 9,aP 11 10,aV 12 .lss 8 11],bW 12 (.exit 0)],.block 1 (af [.region false [⟨none,[au 15 0 2,aj 16 15,aa 17 6,aM 18 3 16 17,aU 19 3 18,((some 7),.op (.alloc [(.val (.string ⟨#[]⟩)),(.val (.int .i64 0)),(.val (.int .i64 0))])),cG 3 7 19]⟩],af [ab [au 20 1 7,aj 21 20,aa 22 1,aV 23 .neq 21 22],bg 23 (.exit 1)],af [.region false [⟨none,[aa 24 5,aE 25 .neq 24 0,aa 26 25]⟩,⟨(some (26,true)),[aa 27 5,au 28 2 7,aj 29 28,aV 30 .neq 27 29]⟩,⟨none,[c8 31 26 30]⟩],bg 31 (af [ab [bu 4 false],.ret])],ab [au 32 2 7,aj 33 32,aa 5 33]]),ab [aa 13 6,aE 14 .add 13 1,aa 6 14]]
def oN:SF:=⟨af [ab [cd 2 0,bu 4 false],ab [aT 5 0],af [ab [aT 6 0],bX 0 mZ],ab [aa 34 5,aE 35 .neq 34 0,aa 4 35],.ret],
 [.tmp 4],36⟩
theorem tL:aQ Tryz.prog 171 [2]=some oN:=by kernel_rfl
theorem Nw (g:ae) (e:g.Ok) (s:ByteArray) (H:View):aw Tryz.prog 170 [.agg (ag g),gs s] H λr _=>r=gi (l5 g s):=by
 refine aw.of mixed uP ?_
 have h:g.ai.length < 4611686018427387904:=e.ai
 simp(disch:=omega)only[↓wr,seval,wq,pN,ag,encS]
 refine bc.intro (λk T _=>∃ i:Nat,i+k=g.ai.length/\nU s ((g.ai.drop i).map Term.name) i=l5 g s/\T 1=gs s/\T 2=.aF (ag g) 0/\T 5=gi i) g.ai.length ?_ ?_
 .exact⟨0,by omega,rfl,rfl,rfl,rfl⟩
 .rintro k T H' ⟨i,hk,hi,h1,a,b⟩
  simp(disch:=omega)only[↓wr,seval,wq,nV,h1,a,b,ag]
  apply ah.dec<;>intro f
  .have c:g.ai[i]?=some (g.ai[i]'(by omega)):=U6 (by omega)
   rw[e9 (show i < g.ai.length by omega)] at hi
   generalize g.ai[i]'(by omega)=t at c hi
   simp only[VF,nU] at hi
   simp(disch:=omega)only[↓wr,seval,wq,h1,a,b,ag,cO,U9,c,Ve]
   apply ah.split<;>intro d
   .rw[Va d] at hi
    simp(disch:=omega)only[↓wr,seval,wq,h1,a,b]
    rw[hi]
   .rw[d,U8 (by simp)] at hi
    simp(disch:=omega)only[↓wr,seval,wq,h1,a,b]
    exact⟨k - 1,by omega,i+1,by omega,by push_cast;exact hi,rfl,rfl⟩
  .rw[VA (by omega)] at hi
   simp only[Wg,nU] at hi
   simp(disch:=omega)only[↓wr,seval,wq,h1,a,b]
   rw[hi]
theorem D1 (g:ae) (a:g.Ok) (s:ByteArray):ay Tryz.prog 170 [.agg (ag g),gs s] (gi (l5 g s)):=ay.val (Hl g s) (Nw g a s)
theorem PO (g:ae) (e:g.Ok) (s:ByteArray) (H:View):aw Tryz.prog 150 [.agg (ag g),gs s] H λr _=>r=gi (xC g s):=by
 refine aw.of mixed vK ?_
 have h:g.ao.length < 4611686018427387904:=e.ao
 simp(disch:=omega)only[↓wr,seval,wq,qR,ag,encS]
 refine bc.intro (λk T _=>∃ i:Nat,i+k=g.ao.length/\nU s (g.ao.drop i) i=xC g s/\T 1=gs s/\T 2=.aF (ag g) 0/\T 5=gi i) g.ao.length ?_ ?_
 .exact⟨0,by omega,rfl,rfl,rfl,rfl⟩
 .rintro k T H' ⟨i,hk,hi,h1,a,b⟩
  simp(disch:=omega)only[↓wr,seval,wq,oO,h1,a,b,ag,encS]
  apply ah.dec<;>intro f
  .have c:g.ao[i]?=some (g.ao[i]'(by omega)):=U6 (by omega)
   rw[e9 (show i < g.ao.length by omega)] at hi
   generalize g.ao[i]'(by omega)=t at c hi
   simp only[VF,nU] at hi
   simp(disch:=omega)only[↓wr,seval,wq,h1,a,b,ag,encS,U9,c,Ve]
   apply ah.split<;>intro d
   .rw[Va d] at hi
    simp(disch:=omega)only[↓wr,seval,wq,h1,a,b]
    rw[hi]
   .rw[d,U8 (by simp)] at hi
    simp(disch:=omega)only[↓wr,seval,wq,h1,a,b]
    exact⟨k - 1,by omega,i+1,by omega,by push_cast;exact hi,rfl,rfl⟩
  .rw[VA (by omega)] at hi
   simp only[Wg,nU] at hi
   simp(disch:=omega)only[↓wr,seval,wq,h1,a,b]
   rw[hi]
theorem Pd (g:ae) (a:g.Ok) (s:ByteArray):ay Tryz.prog 150 [.agg (ag g),gs s] (gi (xC g s)):=ay.val (Hl g s) (PO g a s)
def jd (n:Int):List Term->Int->Option Int
 | [],way=>some way
 | t :: r,way=>if t.level=n then (if way≠0/\way≠t.assoc then none else jd n r t.assoc) else jd n r way
def gE (l:List Term) (n:Int):Bool:=match jd n l 0 with
 | some w=>w != 0
 | none=>false
theorem KJ (g:ae) (l:g.Ok) (n:Int) (H:View):aw Tryz.prog 171 [.agg (ag g),gi n] H λr _=>r=gb (gE g.ai n):=by
 refine aw.of mixed tL ?_
 have p:g.ai.length < 4611686018427387904:=l.ai
 simp(disch:=omega)only[↓wr,seval,wq,oN,ag,encS]
 refine bc.intro (λk T _=>∃ (i:Nat) (w:Int),i+k=g.ai.length/\jd n (g.ai.drop i) w=jd n g.ai 0/\T 1=gi n/\T 2=.aF (ag g) 0/\T 5=gi w/\T 6=gi i) g.ai.length ?_ ?_
 .exact⟨0,0,by omega,rfl,rfl,rfl,rfl,rfl⟩
 .rintro k T H' ⟨i,w,hk,hi,h1,c,d,f⟩
  simp(disch:=omega)only[↓wr,seval,wq,mZ,h1,c,d,f,ag]
  apply ah.dec<;>intro o
  .have h:g.ai[i]?=some (g.ai[i]'(by omega)):=U6 (by omega)
   rw[e9 (show i < g.ai.length by omega)] at hi
   generalize g.ai[i]'(by omega)=t at h hi
   simp only[jd] at hi
   simp(disch:=omega)only[↓wr,seval,wq,h1,c,d,f,ag,cO,U9,h,Ve]
   intro m hm
   try simp(disch:=omega)only[↓wr,seval,wq,h1,c,d,f]
   apply ah.ne<;>intro j
   .rw[U8 j] at hi
    simp(disch:=omega)only[↓wr,seval,wq,h1,c,d,f]
    exact⟨k - 1,by omega,i+1,w,by omega,hi,by first | rfl | exact⟨rfl,rfl⟩ | exact⟨rfl,rfl,rfl⟩⟩
   .rw[Va j] at hi
    repeat' (first | ((first|apply ah.dec|apply ah.eq|apply ah.ne|apply ah.split)<;>intro)|(simp(disch:=omega)only[↓wr,seval,wq,h1,c,d,f]))
    .rename_i a b
     rw[Va ⟨a,b⟩] at hi
     simp only[gE,<-hi]
    .rename_i a b
     rw[U8 (λe=>e.2 b)] at hi
     exact⟨k - 1,by omega,i+1,_,by omega,hi,by first | rfl | exact⟨rfl,rfl⟩ | exact⟨rfl,rfl,rfl⟩⟩
    .rename_i a
     rw[U8 (λe=>e.1 a)] at hi
     exact⟨k - 1,by omega,i+1,_,by omega,hi,by first | rfl | exact⟨rfl,rfl⟩ | exact⟨rfl,rfl,rfl⟩⟩
  .rw[VA (by omega)] at hi
   simp only[jd] at hi
   simp(disch:=omega)only[↓wr,seval,wq,h1,c,d,f]
   simp only[gE,<-hi]
theorem Lr (g:ae) (a:g.Ok) (n:Int):ay Tryz.prog 171 [.agg (ag g),gi n] (gb (gE g.ai n)):=ay.val (Ge g n) (KJ g a n)
def q7 (g:ae) (t:Term):Bool:=(List.range t.level.toNat).all λk=>gE g.ai ((k:Int)+1)
def jQ (g:ae) (i:Int) (t:Term):Bool :=
 pO (fh t.name) && (l5 g t.name == i) && decide (0<=t.level) && decide (t.level<=24) && decide (0<=t.assoc) && decide (t.assoc<=3) && ((t.level == 0) == (t.assoc == 0)) && q7 g t
def jw (g:ae):List Term->Int->Bool
 | [],_=>true
 | t :: r,i=>jQ g i t && jw g r (i+1)
def jH (g:ae):Bool:=decide (g.ai.length<=24) && jw g g.ai 0
def nj:SC :=
 af [af [ab [aa 63 5,au 64 1 4,aj 65 64,aV 66 .leq 63 65],bW 66 (.exit 2)],.block 3 (af [ab [aU 69 4 1,aa 70 5,ba 71 171 [69,70],cb 72 71],bg 72 (af [ab [bu 2 false],.ret])]),ab [aa 67 5,aE 68 .add 67 1,aa 5 68]]
def mN:SC :=
 af [af [ab [aa 10 3,au 11 0 1,aj 12 11,aP 13 12,aV 14 .lss 10 13],bW 14 (.exit 0)],.block 1 (af [.region false [⟨none,[au 17 0 1,aj 18 17,aa 19 3,aM 20 3 18 19,aU 21 3 20,((some 4),.op (.alloc [(.val (.string ⟨#[]⟩)),(.val (.int .i64 0)),(.val (.int .i64 0))])),cG 3 4 21]⟩],af [.region false [⟨none,[au 22 0 4,aj 23 22,ba 24 169 [23],cb 25 24,aa 26 25]⟩,⟨(some (26,false)),[aU 27 4 1,au 28 0 4,aj 29 28,ba 30 170 [27,29],aa 31 3,aV 32 .neq 30 31]⟩,⟨none,[bP 33 26 32,aa 34 33]⟩,⟨(some (34,false)),[au 35 1 4,aj 36 35,aE 37 .lss 36 0]⟩,⟨none,[bP 38 34 37,aa 39 38]⟩,⟨(some (39,false)),[au 40 1 4,aj 41 40,aE 42 .gtr 41 24]⟩,⟨none,[bP 43 39 42,aa 44 43]⟩,⟨(some (44,false)),[au 45 2 4,aj 46 45,aE 47 .lss 46 0]⟩,⟨none,[bP 48 44 47,aa 49 48]⟩,⟨(some (49,false)),[au 50 2 4,aj 51 50,aE 52 .gtr 51 3]⟩,⟨none,[bP 53 49 52,aa 54 53]⟩,⟨(some (54,false)),[au 55 1 4,aj 56 55,aE 57 .eql 56 0,au 58 2 4,aj 59 58,aE 60 .eql 59 0,((some 61),.op (.beq false (.tmp 57) (.tmp 60)))]⟩,⟨none,[bP 62 54 61]⟩],bg 62 (af [ab [bu 2 false],.ret])],ab [aT 5 1],bX 2 nj]),ab [aa 15 3,aE 16 .add 15 1,aa 3 16]]
def ow:SF:=⟨af [ab [cd 1 0,bu 2 false],af [ab [au 6 0 1,aj 7 6,aP 8 7,aE 9 .gtr 8 24],bg 9 (af [ab [bu 2 false],.ret])],af [ab [aT 3 0],bX 0 mN],ab [bu 2 true],.ret],
 [.tmp 2],73⟩
theorem tC:aQ Tryz.prog 104 [1]=some ow:=by kernel_rfl
def og:SC :=
 af [af [ab [aa 14 3,au 15 1 1,aj 16 15,aP 17 16,aV 18 .lss 14 17],bW 18 (.exit 0)],.block 1 (af [.region false [⟨none,[au 21 1 1,aj 22 21,aa 23 3,aM 24 1 22 23,aj 25 24,ba 26 172 [25],cb 27 26,aa 28 27]⟩,⟨(some (28,false)),[aU 29 4 1,au 30 1 1,aj 31 30,aa 32 3,aM 33 1 31 32,aj 34 33,ba 35 150 [29,34],aa 36 3,aV 37 .neq 35 36]⟩,⟨none,[bP 38 28 37,aa 39 38]⟩,⟨(some (39,false)),[aU 40 4 1,au 41 1 1,aj 42 41,aa 43 3,aM 44 1 42 43,aj 45 44,ba 46 170 [40,45],aE 47 .geq 46 0]⟩,⟨none,[bP 48 39 47]⟩],bg 48 (af [ab [bu 2 false],.ret])]),ab [aa 19 3,aE 20 .add 19 1,aa 3 20]]
def qD:SF:=⟨af [ab [cd 1 0,bu 2 false],af [.region false [⟨none,[au 4 1 1,aj 5 4,aP 6 5,aE 7 .lss 6 1,aa 8 7]⟩,⟨(some (8,false)),[au 9 1 1,aj 10 9,aP 11 10,aE 12 .gtr 11 16]⟩,⟨none,[bP 13 8 12]⟩],bg 13 (af [ab [bu 2 false],.ret])],af [ab [aT 3 0],bX 0 og],ab [bu 2 true],.ret],
 [.tmp 2],49⟩
theorem uD:aQ Tryz.prog 105 [1]=some qD:=by kernel_rfl
def nL:SC :=
 af [af [ab [aa 23 5,au 24 1 3,aj 25 24,aP 26 25,aV 27 .lss 23 26],bW 27 (.exit 0)],.block 1 (af [.region false [⟨none,[aU 30 4 2,au 31 1 3,aj 32 31,aa 33 5,aM 34 1 32 33,aj 35 34,ba 36 74 [30,35],cb 37 36,aa 38 37]⟩,⟨(some (38,false)),[au 39 1 3,aj 40 39,aa 41 5,aM 42 1 40 41,aj 43 42,aE 44 .geq 43 0,aa 45 44]⟩,⟨(some (45,true)),[au 46 2 3,aj 47 46,aE 48 .eql 47 (-1)]⟩,⟨(some (38,false)),[c8 49 45 48]⟩,⟨none,[bP 50 38 49]⟩],bg 50 (af [ab [bu 4 false],.ret])]),ab [aa 28 5,aE 29 .add 28 1,aa 5 29]]
def qu:SF:=⟨af [ab [cd 2 0,cd 3 1,bu 4 false],af [.region false [⟨none,[au 6 1 3,aj 7 6,aP 8 7,aE 9 .gtr 8 6,aa 10 9]⟩,⟨(some (10,false)),[au 11 2 3,aj 12 11,aE 13 .lss 12 (-1)]⟩,⟨none,[bP 14 10 13,aa 15 14]⟩,⟨(some (15,false)),[au 16 2 3,aj 17 16,au 18 0 2,aj 19 18,aP 20 19,aV 21 .geq 17 20]⟩,⟨none,[bP 22 15 21]⟩],bg 22 (af [ab [bu 4 false],.ret])],af [ab [aT 5 0],bX 0 nL],ab [bu 4 true],.ret],
 [.tmp 4],51⟩
theorem ve:aQ Tryz.prog 106 [2,3]=some qu:=by kernel_rfl
def mT:SC :=
 af [af [ab [aa 39 4,au 40 2 1,aj 41 40,aP 42 41,aV 43 .lss 39 42],bW 43 (.exit 0)],.block 1 (af [ab [au 46 2 1,aj 47 46,aa 48 4,aM 49 3 47 48,aU 50 3 49,((some 5),.op (.alloc [(.val (.int .i64 0)),(.emp 1),(.val (.int .i64 0))])),cG 3 5 50],af [.region false [⟨none,[au 51 0 5,aj 52 51,aE 53 .lss 52 0,aa 54 53]⟩,⟨(some (54,false)),[au 55 0 5,aj 56 55,aa 57 3,aE 58 .add 57 1,aV 59 .gtr 56 58]⟩,⟨none,[bP 60 54 59,aa 61 60]⟩,⟨(some (61,false)),[aU 62 4 1,aU 63 3 5,ba 64 106 [62,63],cb 65 64]⟩,⟨none,[bP 66 61 65]⟩],bg 66 (af [ab [bu 2 false],.ret])],ab [au 67 0 5,aj 68 67,aa 69 3,aV 70 .gtr 68 69],bg 70 (ab [au 71 0 5,aj 72 71,aa 3 72])]),ab [aa 44 4,aE 45 .add 44 1,aa 4 45]]
def oS:SF:=⟨af [ab [cd 1 0,bu 2 false],af [.region false [⟨none,[aU 6 4 1,ba 7 104 [6],cb 8 7,aa 9 8]⟩,⟨(some (9,false)),[aU 10 4 1,ba 11 105 [10],cb 12 11]⟩,⟨none,[bP 13 9 12,aa 14 13]⟩,⟨(some (14,false)),[au 15 2 1,aj 16 15,aP 17 16,aE 18 .lss 17 1]⟩,⟨none,[bP 19 14 18,aa 20 19]⟩,⟨(some (20,false)),[au 21 2 1,aj 22 21,aP 23 22,aE 24 .gtr 23 40]⟩,⟨none,[bP 25 20 24,aa 26 25]⟩,⟨(some (26,false)),[au 27 3 1,aj 28 27,aE 29 .lss 28 0]⟩,⟨none,[bP 30 26 29,aa 31 30]⟩,⟨(some (31,false)),[au 32 3 1,aj 33 32,au 34 1 1,aj 35 34,aP 36 35,aV 37 .geq 33 36]⟩,⟨none,[bP 38 31 37]⟩],bg 38 (af [ab [bu 2 false],.ret])],ab [aT 3 (-1)],af [ab [aT 4 0],bX 0 mT],ab [aa 73 3,au 74 1 1,aj 75 74,aP 76 75,aE 77 .sub 76 1,aV 78 .eql 73 77,aa 2 78],.ret],
 [.tmp 2],79⟩
theorem um:aQ Tryz.prog 50 [1]=some oS:=by kernel_rfl
theorem KW (g:ae) (p:g.Ok) (H:View):aw Tryz.prog 104 [.agg (ag g)] H λr _=>r=gb (jH g):=by
 refine aw.of mixed tC ?_
 simp(disch:=omega)only[↓wr,seval,wq,ow,ag,encS]
 apply ah.dec<;>intro h
 .simp(disch:=omega)only[↓wr,seval,wq]
  simp[jH,show ¬ g.ai.length<=24 by omega]
 .have hle:g.ai.length<=24:=by omega
  simp(disch:=omega)only[↓wr,seval,wq]
  refine bc.intro (λk T _=>∃ i:Nat,i+k=g.ai.length/\jw g (g.ai.drop i) i=jw g g.ai 0/\T 1=.aF (ag g) 0/\T 3=gi i) g.ai.length ?_ ?_
  .exact⟨0,by omega,rfl,rfl,rfl⟩
  .rintro k T H' ⟨i,hk,hi,h1,d⟩
   simp(disch:=omega)only[↓wr,seval,wq,mN,h1,d,ag]
   apply ah.dec<;>intro z
   .have f:g.ai[i]?=some (g.ai[i]'(by omega)):=U6 (by omega)
    rw[e9 (show i < g.ai.length by omega)] at hi
    have b:g.ai[i]'(by omega)∈g.ai:=Vg _
    generalize g.ai[i]'(by omega)=t at f hi b
    obtain⟨⟨A,B⟩,⟨C,D⟩⟩:=p.term t b
    simp only[jw] at hi
    have a:jQ g i t=false->gb false=gb (jH g):=λe=>by rw[e,WK] at hi;simp[jH,<-hi]
    simp(disch:=omega)only[↓wr,seval,wq,h1,d,ag,cO,U9,f,Ve]
    intro m hm
    try simp(disch:=omega)only[↓wr,seval,wq,h1,d]
    refine av.pure (K6 t.name) ?_
    repeat' (first | ((first|apply ah.dec|apply ah.eq|apply ah.ne|apply ah.split)<;>intro)|(simp(disch:=omega)only[↓wr,seval,wq,h1,d,ag]))
    all_goals try (refine a ?_;simp[jQ, *];done)
    rename_i s
    refine av.pure (D1 g p t.name) ?_
    repeat' (first | ((first|apply ah.dec|apply ah.eq|apply ah.ne|apply ah.split)<;>intro)|(simp(disch:=omega)only[↓wr,seval,wq,h1,d,ag]))
    all_goals try (refine a ?_;simp[jQ, *];done)
    all_goals try (refine a ?_;simp[jQ];grind)
    rename_i E K L M N F
    have c:jQ g i t=q7 g t:=by
     have u:((t.level == 0) == (t.assoc == 0))=true:=by simpa using F
     simp[jQ,s,E,u,show (0:Int)<=t.level by omega,show t.level<=24 by omega,show (0:Int)<=t.assoc by omega,show t.assoc<=3 by omega]
    refine bc.intro (λv T l=>∃ j:Nat,1<=j/\j+v=t.level.toNat+1/\(∀ q:Nat,q+1 < j->gE g.ai ((q:Int)+1)=true)/\T 1=.aF (ag g) 0/\T 3=gi i/\T 4=.ptr m 0 0/\l m=.arr 3 [[gs t.name,gi t.level,gi t.assoc]]/\T 5=gi j) t.level.toNat ?_ ?_
    .refine⟨1,by omega,by omega,λq w=>by omega,?_⟩
     simp(disch:=omega)only[↓wr,↓reduceIte,wq,Nat.reduceEqDiff,Nat.reduceAdd,Nat.reduceLT,Nat.reduceLeDiff,Int.reduceNeg,Int.reduceToNat,reduceCtorEq,h1,d,ag]
     rfl
    .rintro v O l ⟨j,G,I,n,f1,f3,f4,o,f5⟩
     simp(disch:=omega)only[↓wr,seval,wq,nj,f1,f3,f4,f5,o]
     apply ah.dec<;>intro J
     .simp(disch:=omega)only[↓wr,seval,wq,f1,f3,f4,f5,o,ag]
      refine av.pure (Lr g p j) ?_
      repeat' (first | ((first|apply ah.dec|apply ah.eq|apply ah.ne|apply ah.split)<;>intro)|(simp(disch:=omega)only[↓wr,seval,wq,f1,f3,f4,f5,o,ag]))
      .rename_i x
       refine⟨v - 1,by omega,j+1,by omega,by omega,λq w=>?_,by first | rfl | exact⟨rfl,rfl⟩ | exact⟨rfl,rfl,rfl⟩⟩
       by_cases e:q+1=j
       .have:(q:Int)+1=j:=by omega
        rw[this];exact x
       .exact n q (by omega)
      .rename_i x
       refine a ?_
       rw[c,q7,List.all_eq_false]
       refine⟨j - 1,by simp;omega,?_⟩
       have:((j - 1:Nat):Int)+1=j:=by omega
       rw[this,x];simp
     .simp(disch:=omega)only[↓wr,seval,wq,f1,f3,f4,f5,o]
      refine⟨k - 1,by omega,i+1,by omega,?_,by first | rfl | exact⟨rfl,rfl⟩ | exact⟨rfl,rfl,rfl⟩⟩
      have y:q7 g t=true:=by
       rw[q7,Vr]
       intro q w
       exact n q (by simp at w;omega)
      rw[c,y,V3] at hi
      push_cast;exact hi
   .rw[VA (by omega)] at hi
    simp only[jw] at hi
    simp(disch:=omega)only[↓wr,seval,wq,h1,d]
    simp[jH,hle,<-hi]
theorem Lw (g:ae) (a:g.Ok):ay Tryz.prog 104 [.agg (ag g)] (gb (jH g)):=ay.val (eP g) (KW g a)
def lq (g:ae) (i:Int) (s:ByteArray):Bool:=fP (fh s) && (xC g s == i) && decide (l5 g s < 0)
def rp (g:ae):List ByteArray->Int->Bool
 | [],_=>true
 | s :: r,i=>lq g i s && rp g r (i+1)
def kp (g:ae):Bool:=decide (1<=g.ao.length) && decide (g.ao.length<=16) && rp g g.ao 0
theorem OQ (g:ae) (h:g.Ok) (H:View):aw Tryz.prog 105 [.agg (ag g)] H λr _=>r=gb (kp g):=by
 refine aw.of mixed uD ?_
 repeat' (first | ((first|apply ah.dec|apply ah.eq|apply ah.ne|apply ah.split)<;>intro)|(simp(disch:=omega)only[↓wr,seval,wq,qD,ag,encS]))
 .simp[kp,show ¬ 1<=g.ao.length by omega]
 .simp[kp,show ¬ g.ao.length<=16 by omega]
 .have hle:g.ao.length<=16:=by omega
  refine bc.intro (λk T _=>∃ i:Nat,i+k=g.ao.length/\rp g (g.ao.drop i) i=rp g g.ao 0/\T 1=.aF (ag g) 0/\T 3=gi i) g.ao.length ?_ ?_
  .exact⟨0,by omega,rfl,rfl,rfl⟩
  .rintro k T H' ⟨i,hk,hi,h1,c⟩
   simp(disch:=omega)only[↓wr,seval,wq,og,h1,c,ag,encS]
   apply ah.dec<;>intro j
   .have b:g.ao[i]?=some (g.ao[i]'(by omega)):=U6 (by omega)
    rw[e9 (show i < g.ao.length by omega)] at hi
    generalize g.ao[i]'(by omega)=t at b hi
    simp only[rp] at hi
    have a:lq g i t=false->gb false=gb (kp g):=λe=>by rw[e,WK] at hi;simp[kp,<-hi]
    simp(disch:=omega)only[↓wr,seval,wq,h1,c,ag,encS,U9,b,Ve]
    refine av.pure (Dt t) ?_
    repeat' (first | ((first|apply ah.dec|apply ah.eq|apply ah.ne|apply ah.split)<;>intro)|(simp(disch:=omega)only[↓wr,seval,wq,h1,c,ag,encS,U9,b,Ve]))
    all_goals try (refine a ?_;simp[lq, *];done)
    rename_i d
    refine av.pure (Pd g h t) ?_
    repeat' (first | ((first|apply ah.dec|apply ah.eq|apply ah.ne|apply ah.split)<;>intro)|(simp(disch:=omega)only[↓wr,seval,wq,h1,c,ag,encS,U9,b,Ve]))
    all_goals try (refine a ?_;simp[lq, *];done)
    rename_i f
    refine av.pure (D1 g h t) ?_
    repeat' (first | ((first|apply ah.dec|apply ah.eq|apply ah.ne|apply ah.split)<;>intro)|(simp(disch:=omega)only[↓wr,seval,wq,h1,c,ag,encS]))
    all_goals try (refine a ?_;simp[lq, *];done)
    rename_i l
    refine⟨k - 1,by omega,i+1,by omega,?_,by first | rfl | exact⟨rfl,rfl⟩ | exact⟨rfl,rfl,rfl⟩⟩
    have:lq g i t=true:=by simp[lq,d,f,show l5 g t < 0 by omega]
    rw[this,V3] at hi
    push_cast;exact hi
   .rw[VA (by omega)] at hi
    simp only[rp] at hi
    simp(disch:=omega)only[↓wr,seval,wq,h1,c]
    simp[kp,hle,show 1<=g.ao.length by omega,<-hi]
theorem Od (g:ae) (a:g.Ok):ay Tryz.prog 105 [.agg (ag g)] (gb (kp g)):=ay.val (eP g) (OQ g a)
def l8 (g:ae) (prec s:Int):Bool:=gB g s && !(decide (0<=s) && prec == -1)
def ig (g:ae) (r:aN):Bool:=decide (r.right.length<=6) && decide (-1<=r.prec) && decide (r.prec < g.ai.length) && r.right.all (l8 g r.prec)
theorem Gn (g:ae) (r:aN):∀ v∈[V.agg (ag g),V.agg (aW r)],Tree v:=by
 intro v a;simp at a
 rcases a with rfl | rfl
 .exact bz _ (bE g)
 .exact bz _ (jh r)
theorem M9 (g:ae) (r:aN) (hr:aH r.right/\∀ x∈r.right,bD x) (H:View):aw Tryz.prog 106 [.agg (ag g),.agg (aW r)] H λv _=>v=gb (ig g r):=by
 refine aw.of mixed ve ?_
 repeat' (first | ((first|apply ah.dec|apply ah.eq|apply ah.ne|apply ah.split)<;>intro)|(simp(disch:=omega)only[↓wr,seval,wq,qu,ag,encS,aW,encI]))
 .simp[ig,show ¬ r.right.length<=6 by omega]
 .simp[ig,show ¬ -1<=r.prec by omega]
 .simp[ig,show ¬ r.prec < g.ai.length by omega]
 .have hle:r.right.length<=6:=by omega
  have j : -1<=r.prec:=by omega
  have l:r.prec < g.ai.length:=by omega
  refine bc.intro (λk T _=>∃ i:Nat,i+k=r.right.length/\(r.right.drop i).all (l8 g r.prec)=r.right.all (l8 g r.prec)/\T 2=.aF (ag g) 0/\T 3=.aF (aW r) 0/\T 5=gi i) r.right.length ?_ ?_
  .exact⟨0,by omega,rfl,rfl,rfl,rfl⟩
  .rintro k T H' ⟨i,hk,hi,d,f,h⟩
   simp(disch:=omega)only[↓wr,seval,wq,nL,d,f,h,aW,encI]
   apply ah.dec<;>intro o
   .have b:r.right[i]?=some (r.right[i]'(by omega)):=U6 (by omega)
    rw[e9 (show i < r.right.length by omega)] at hi
    have a:r.right[i]'(by omega)∈r.right:=Vg _
    generalize r.right[i]'(by omega)=t at b hi a
    have m:=hr.2 t a
    simp only[Wb] at hi
    have c:l8 g r.prec t=false->gb false=gb (ig g r):=λe=>by rw[e,WK] at hi;simp only[ig,<-hi,W7]
    have n:l8 g r.prec t=true->(r.right.drop (i+1)).all (l8 g r.prec)=r.right.all (l8 g r.prec):=λe=>by rw[e,V3] at hi;exact hi
    simp(disch:=omega)only[↓wr,seval,wq,d,f,h,ag,encS,aW,encI,U9,b,Ve]
    refine av.pure (Nq g t m) ?_
    repeat' (first | ((first|apply ah.dec|apply ah.eq|apply ah.ne|apply ah.split)<;>intro)|(simp(disch:=omega)only[↓wr,seval,wq,d,f,h,ag,encS,aW,encI,U9,b,Ve]))
    all_goals first
     | (refine c ?_;simp[l8, *];done)
     | (refine⟨k - 1,by omega,i+1,by omega,n (by simp[l8, *];done),by first | rfl | exact⟨rfl,rfl⟩ | exact⟨rfl,rfl,rfl⟩⟩)
     | skip
   .rw[VA (by omega)] at hi
    simp only[List.all_nil] at hi
    simp(disch:=omega)only[↓wr,seval,wq,d,f,h]
    simp only[ig,hle,j,l,decide_true,V3,<-hi]
theorem MC (g:ae) (r:aN) (hr:aH r.right/\∀ x∈r.right,bD x):ay Tryz.prog 106 [.agg (ag g),.agg (aW r)] (gb (ig g r)):=ay.val (Gn g r) (M9 g r hr)
def gC (g:ae):List aN->Int->Bool
 | [],top=>top == (g.ao.length:Int) - 1
 | r :: l,top=>decide (0<=r.left) && decide (r.left<=top+1) && ig g r && gC g l (if r.left > top then r.left else top)
def aO (g:ae):Bool :=
 jH g && kp g && decide (1<=g.rules.length) && decide (g.rules.length<=40) && decide (0<=g.start) && decide (g.start < g.ao.length) && gC g g.rules (-1)
theorem KZ (g:ae) (h:g.Ok) (H:View):aw Tryz.prog 50 [.agg (ag g)] H λr _=>r=gb (aO g):=by
 refine aw.of mixed um ?_
 have o:=h.ao
 unfold aH at o
 simp(disch:=omega)only[↓wr,seval,wq,oS,ag,encS]
 refine av.pure (Lw g h) ?_
 repeat' (first | ((first|apply ah.dec|apply ah.eq|apply ah.ne|apply ah.split)<;>intro)|(simp(disch:=omega)only[↓wr,seval,wq,ag,encS]))
 .rename_i h1
  refine av.pure (Od g h) ?_
  repeat' (first | ((first|apply ah.dec|apply ah.eq|apply ah.ne|apply ah.split)<;>intro)|(simp(disch:=omega)only[↓wr,seval,wq,ag,encS]))
  all_goals try (simp[aO, *];done)
  all_goals try (simp[aO];omega)
  rename_i p y z A B
  have hle:g.rules.length<=40:=by omega
  have a:∀ b,gC g g.rules (-1)=b->gb b=gb (aO g):=λb e=>by
   simp[aO,h1,p,show 1<=g.rules.length by omega,hle,show 0<=g.start by omega,show g.start < g.ao.length by omega,e]
  refine bc.intro (λk T _=>∃ (i:Nat) (w:Int),i+k=g.rules.length/\-1<=w/\w < i/\gC g (g.rules.drop i) w=gC g g.rules (-1)/\T 1=.aF (ag g) 0/\T 3=gi w/\T 4=gi i) g.rules.length ?_ ?_
  .exact⟨0,-1,by omega,by omega,by omega,rfl,rfl,rfl,rfl⟩
  .rintro k T H' ⟨i,w,hk,q,s,hi,f1,f3,f4⟩
   simp(disch:=omega)only[↓wr,seval,wq,mT,f1,f3,f4,ag]
   apply ah.dec<;>intro u
   .have d:g.rules[i]?=some (g.rules[i]'(by omega)):=U6 (by omega)
    rw[e9 (show i < g.rules.length by omega)] at hi
    have c:g.rules[i]'(by omega)∈g.rules:=Vg _
    generalize g.rules[i]'(by omega)=t at d hi c
    obtain⟨⟨v,x⟩,hp,j,l⟩:=h.al t c
    simp only[gC] at hi
    simp(disch:=omega)only[↓wr,seval,wq,f1,f3,f4,ag,encS,aW,encI,U9,d,Ve]
    intro m hm
    try simp(disch:=omega)only[↓wr,seval,wq,f1,f3,f4]
    repeat' (first | ((first|apply ah.dec|apply ah.eq|apply ah.ne|apply ah.split)<;>intro)|(simp(disch:=omega)only[↓wr,seval,wq,f1,f3,f4,ag,encS,aW,encI]))
    all_goals try (refine a _ ?_;simp only[<-hi];simp;omega)
    rename_i C D
    refine av.pure (MC g t ⟨j,l⟩) ?_
    repeat' (first | ((first|apply ah.dec|apply ah.eq|apply ah.ne|apply ah.split)<;>intro)|(simp(disch:=omega)only[↓wr,seval,wq,f1,f3,f4,ag,encS,aW,encI]))
    all_goals simp only[show 0<=t.left by omega,show t.left<=w+1 by omega,decide_true,V3] at hi
    .rename_i f n
     rw[f,V3,Va n] at hi
     exact⟨k - 1,by omega,i+1,_,by omega,by omega,by push_cast;omega,hi,by first | rfl | exact⟨rfl,rfl⟩ | exact⟨rfl,rfl,rfl⟩⟩
    .rename_i f n
     rw[f,V3,U8 n] at hi
     exact⟨k - 1,by omega,i+1,_,by omega,by omega,by push_cast;omega,hi,by first | rfl | exact⟨rfl,rfl⟩ | exact⟨rfl,rfl,rfl⟩⟩
    .rename_i f
     rw[f,WK] at hi
     exact a _ hi.symm
   .rw[VA (by omega)] at hi
    simp only[gC] at hi
    simp(disch:=omega)only[↓wr,seval,wq,f1,f3,f4,ag,encS]
    exact a _ hi.symm
 .rename_i h1;simp[aO,h1]
theorem gK (g:ae) (a:g.Ok):ay Tryz.prog 50 [.agg (ag g)] (gb (aO g)):=ay.val (eP g) (KZ g a)
inductive cz (α:Type) where
 | nil
 | node (v:α) (l r:cz α)
noncomputable def cz.get {α:Type} (z:α) (t:cz α):Nat->α :=
 cz.rec (motive:=λ_=>Nat->α) (λ_=>z) (λv _ _ gl gr i=>Bool.rec (Bool.rec (gr (i / 2 - 1)) (gl (i / 2)) (Nat.beq (i % 2) 1)) v (Nat.beq i 0)) t
theorem cz.get_nil {α:Type} (z:α) (i:Nat):cz.get z .nil i=z:=rfl
theorem cz.O6 {α:Type} (z v:α) (l r:cz α) (i:Nat):cz.get z (.node v l r) i=match Nat.beq i 0 with
  | true=>v
  | false=>match Nat.beq (i % 2) 1 with
   | true=>cz.get z l (i / 2)
   | false=>cz.get z r (i / 2 - 1):=by
 change (Bool.rec (motive:=λ_=>α) _ _ _:α)=_
 cases Nat.beq i 0 with
 | true=>rfl
 | false=>cases Nat.beq (i % 2) 1 <;> rfl
def cz.val {α:Type} (z:α):cz α->α
 | .nil=>z
 | .node v _ _=>v
def cz.left {α:Type} : cz α->cz α
 | .nil=>.nil
 | .node _ l _=>l
def cz.right {α:Type} : cz α->cz α
 | .nil=>.nil
 | .node _ _ r=>r
noncomputable def cz.put {α:Type} (z:α) (x:α) (d:Nat):cz α->Nat->cz α :=
 Nat.rec (motive:=λ_=>cz α->Nat->cz α) (λt _=>t) (λ_ pd t i =>
  Bool.rec (Bool.rec (.node (t.val z) t.left (pd t.right (i / 2 - 1))) (.node (t.val z) (pd t.left (i / 2)) t.right) (Nat.beq (i % 2) 1)) (.node x t.left t.right) (Nat.beq i 0)) d
theorem cz.PK {α:Type} (z x:α) (d:Nat) (t:cz α) (i:Nat):cz.put z x (d+1) t i=match Nat.beq i 0 with
  | true=>.node x t.left t.right
  | false=>match Nat.beq (i % 2) 1 with
   | true=>.node (t.val z) (cz.put z x d t.left (i / 2)) t.right
   | false=>.node (t.val z) t.left (cz.put z x d t.right (i / 2 - 1)):=by
 change (Bool.rec (motive:=λ_=>cz α) _ _ _:cz α)=_
 cases Nat.beq i 0 with
 | true=>rfl
 | false=>cases Nat.beq (i % 2) 1 <;> rfl
theorem cz.mz {α:Type} (z:α) (t:cz α) (j:Nat):t.get z j=if j=0 then t.val z else if j % 2=1 then t.left.get z (j / 2) else t.right.get z (j / 2 - 1):=by
 cases t with
 | nil=>simp[cz.get_nil,cz.val,cz.left,cz.right]
 | node v l r =>
  simp only[cz.O6,cz.val,cz.left,cz.right]
  by_cases h:j=0
  .subst h;rfl
  .have:Nat.beq j 0=false:=by cases e:Nat.beq j 0 with | true=>exact absurd (Nat.eq_of_beq_eq_true e) h | false=>rfl
   rw[this,U8 h]
   simp only
   by_cases a:j % 2=1
   .have:Nat.beq (j % 2) 1=true:=by rw[a];rfl
    rw[this,Va a]
   .have:Nat.beq (j % 2) 1=false:=by cases e:Nat.beq (j % 2) 1 with | true=>exact absurd (Nat.eq_of_beq_eq_true e) a | false=>rfl
    rw[this,U8 a]
theorem cz.mW {α:Type} (z x:α):∀ (d:Nat) (t:cz α) (i j:Nat),i+1 < 2 ^ d->(cz.put z x d t i).get z j=if j=i then x else t.get z j
 | 0,t,i,j,h=>by simp at h
 | d+1,t,i,j,h=>by
  rw[Nat.pow_succ] at h
  simp only[cz.PK]
  by_cases hi:i=0
  .subst hi
   have:Nat.beq 0 0=true:=rfl
   rw[this]
   simp only
   rw[cz.mz,cz.mz z t]
   simp only[cz.val,cz.left,cz.right]
   by_cases b:j=0
   .rw[Va b,Va b]
   .rw[U8 b,U8 b,U8 b]
  .have:Nat.beq i 0=false:=by cases e:Nat.beq i 0 with | true=>exact absurd (Nat.eq_of_beq_eq_true e) hi | false=>rfl
   rw[this]
   simp only
   by_cases c:i % 2=1
   .have:Nat.beq (i % 2) 1=true:=by rw[c];rfl
    rw[this]
    simp only
    rw[cz.mz,cz.mz z t]
    simp only[cz.val,cz.left,cz.right]
    by_cases b:j=0
    .subst b;rw[Va rfl,U8 (λe=>hi e.symm),Va rfl]
    .rw[U8 b,U8 b]
     by_cases a:j % 2=1
     .rw[Va a,Va a,cz.mW z x d _ _ _ (by omega)]
      by_cases e:j=i
      .subst e;simp
      .rw[U8 e,U8 (by omega)]
     .rw[U8 a,U8 a,U8 (λe=>a (by rw[e];exact c))]
   .have:Nat.beq (i % 2) 1=false:=by cases e:Nat.beq (i % 2) 1 with | true=>exact absurd (Nat.eq_of_beq_eq_true e) c | false=>rfl
    rw[this]
    simp only
    rw[cz.mz,cz.mz z t]
    simp only[cz.val,cz.left,cz.right]
    by_cases b:j=0
    .subst b;rw[Va rfl,U8 (λe=>hi e.symm),Va rfl]
    .rw[U8 b,U8 b]
     by_cases a:j % 2=1
     .rw[Va a,Va a,U8 (λe=>c (by rw[<-e];exact a))]
     .rw[U8 a,U8 a,cz.mW z x d _ _ _ (by omega)]
      by_cases e:j=i
      .subst e;simp
      .rw[U8 e,U8 (by omega)]
abbrev deep:Nat:=13
structure ES where
 L:cz V
 H:cz bT
 n:Nat
 w:List Nat
noncomputable def ES.T (s:ES):Env:=s.L.get .any
noncomputable def ES.V (s:ES):View:=s.H.get .dead
noncomputable def ES.put (s:ES) (d:Option Nat) (v:Gv.V):ES:=match d with
 | some t=>⟨s.L.put .any v deep t,s.H,s.n,s.w⟩
 | none=>s
theorem ES.QX {s:ES} {d:Option Nat} {v:Gv.V} (h:∀ t,d=some t->t < 8000):(s.put d v).T=s.T.put d v:=by
 cases d with
 | none=>rfl
 | some t =>
  funext k
  have:=h t rfl
  simp only[ES.put,ES.T,Env.put]
  rw[cz.mW _ _ _ _ _ _ (by simp[deep];omega)]
noncomputable def Hk (v:V) (aA:bk) (rd:List Nat) (s:ES):Option (V × ES × Rec):=match aA with
 | .none=>some (v,s,⟨rd,[],false,s.n,s.n⟩)
 | .new o=>match Nat.ble s.n 8000 with
  | true=>some (v,⟨s.L,s.H.put .dead o deep s.n,s.n+1,s.w⟩,⟨rd,[],false,s.n,s.n+1⟩)
  | false=>none
 | .fj id o=>match Nat.ble id 8000 with
  | true=>some (v,⟨s.L,s.H.put .dead o deep id,s.n,id :: s.w⟩,⟨rd,[id],false,s.n,s.n⟩)
  | false=>none
 | .ee id o=>match Nat.ble s.n 8000,Nat.ble id 8000 with
  | true,true=>some (v,⟨s.L,(s.H.put .dead .dead deep id).put .dead o deep s.n,s.n+1,id :: s.w⟩,⟨rd,[id],false,s.n,s.n+1⟩)
  | _,_=>none
noncomputable def TV (x:SX) (_:Program) (T:Env) (_:View) (_:Nat):Out:=some (x.at T,.none,[])
noncomputable def TL (c a b:SX) (_:Program) (T:Env) (_:View) (_:Nat):Out:=match c.at T with
 | .val (.bool t)=>some (if t then a.at T else b.at T,.none,[])
 | _=>none
noncomputable def TB (sz:Option Nat) (a:SX) (_:Program) (T:Env) (H:View) (_:Nat):Out:=we sz (a.at T) H
noncomputable def Th (sz:Nat) (a x:SX) (_:Program) (T:Env) (H:View) (_:Nat):Out:=AL sz (a.at T) (x.at T) H
noncomputable def TI (off:Nat) (x:SX) (_:Program) (T:Env) (_:View) (_:Nat):Out:=za off (x.at T)
noncomputable def Uo (sz:Nat) (x i:SX) (_:Program) (T:Env) (_:View) (_:Nat):Out:=C1 sz (x.at T) (i.at T)
noncomputable def Ui (x:SX) (_:Program) (T:Env) (_:View) (_:Nat):Out:=(dH (x.at T)).map λn=>(cF n,.none,[])
noncomputable def Ti (op:BinOp) (x y:SX) (_:Program) (T:Env) (_:View) (_:Nat):Out:=yT op (x.at T) (y.at T)
noncomputable def Uu (op:BinOp) (x y:SX) (_:Program) (T:Env) (_:View) (_:Nat):Out:=Ai op (x.at T) (y.at T)
noncomputable def TY (x:SX) (_:Program) (T:Env) (_:View) (_:Nat):Out:=match x.at T with
 | .val (.bool t)=>some (.val (.bool (!t)),.none,[])
 | _=>none
noncomputable def Uv (i:Nat) (x:SX) (_:Program) (T:Env) (_:View) (_:Nat):Out:=match x.at T with
 | .bm vs=>if i < vs.length then some (vs.getD i .any,.none,[]) else none
 | _=>none
noncomputable def TJ (x:SX) (_:Program) (T:Env) (_:View) (_:Nat):Out:=match x.at T with
 | .ptr id i j=>some (.ptr id i j,.none,[])
 | .aF e j=>some (.aF e j,.none,[])
 | .fn f a b=>some (.fn f a b,.none,[])
 | _=>none
noncomputable def eI (s:SI):Program->Env->View->Nat->Out:=match s with
 | .ee x=>TV x
 | .pick c a b=>TL c a b
 | .load sz a=>TB sz a
 | .store sz a x=>Th sz a x
 | .addr o x=>TI o x
 | .idx sz x i=>Uo sz x i
 | .len x=>Ui x
 | .arith op x y=>Ti op x y
 | .xR op x y=>Uu op x y
 | .not x=>TY x
 | .ext i x=>Uv i x
 | .Aj x=>TJ x
 | s=>λP T H n=>sI P s T H n
theorem LH (s:SI) (P:Program) (T:Env) (H:View) (n:Nat):eI s P T H n=sI P s T H n:=by
 cases s <;> rfl
abbrev ib:=FuncId->List V->ES->Option (V × ES)
noncomputable def Mv (P:Program) (s:SI) (e:ES):Option (V × ES × Rec):=match eI s P e.T e.V e.n with
 | some (v,aA,rd)=>Hk v aA rd e
 | none=>none
noncomputable def No (call:ib) (f:SX) (args:List SX) (e:ES):Option (V × ES × Rec):=match f.at e.T with
 | .fn g first cap=>match call g (first ++ args.map (SX.at e.T) ++ cap) e with
  | some (v,e')=>some (v,⟨e.L,e'.H,e'.n,e'.w ++ e.w⟩,⟨[],e'.w,true,e.n,e'.n⟩)
  | none=>none
 | _=>none
noncomputable def eB (P:Program) (call:ib) (b:SB):ES->Option (V × ES × Rec):=match b with
 | .op s=>Mv P s
 | .call f args=>No call f args
 | .y8 ..=>λ_=>none
noncomputable def JN (P:Program) (call:ib):List (Option Nat × SB)->List Rec->ES->Option (ES × List Rec)
 | [],a,e=>some (e,a)
 | (d,b) :: r,a,e=>match eB P call b e with
  | some (v,e',c)=>JN P call r (a ++ [c]) (e'.put d v)
  | none=>none
noncomputable def Q0 (e:ES):Rec:=⟨[],[],false,e.n,e.n⟩
noncomputable def v8:List (Option Nat × SB)->List Rec->ES->ES × List Rec
 | [],a,e=>(e,a)
 | (d,_) :: r,a,e=>v8 r (a ++ [Q0 e]) (e.put d (.bm []))
noncomputable def Nz (P:Program) (call:ib) (ops:List (Option Nat × SB)) (want:Bool) (v:V) (a:List Rec) (e:ES):Option (ES × List Rec):=match v with
 | .val (.bool b)=>match xor b want with
  | true=>some (v8 ops a e)
  | false=>JN P call ops a e
 | .bm []=>some (v8 ops a e)
 | _=>none
noncomputable def eG (P:Program) (call:ib) (g:SG) (a:List Rec) (e:ES):Option (ES × List Rec):=match g.guard with
 | none=>JN P call g.ops a e
 | some (d,want)=>Nz P call g.ops want (e.T d) a e
noncomputable def MI (P:Program) (call:ib):List SG->List Rec->ES->Option (ES × List Rec)
 | [],a,e=>some (e,a)
 | g :: r,a,e=>match eG P call g a e with
  | some (e',a')=>MI P call r a' e'
  | none=>none
inductive DC where
 | skip
 | region (ps:List (Nat × Nat)) (gs:List SG)
 | seq (x y:DC)
 | cond (c:SX) (x y:DC)
 | block (id:Nat) (c:DC)
 | loop (c:DC)
 | exit (id:Nat)
 | ret
 deriving Inhabited
def MP (recs:List Rec) (ps:List (Nat × Nat)):Bool:=ps.all λ(i,k)=>match recs[i]?,recs[k]? with
 | some a,some b=>CU a b
 | _,_=>false
abbrev ER:=Option (Exit × ES)
abbrev w7:=DC->ES->ER
noncomputable def NJ:ES->ER:=λe=>some (.normal,e)
noncomputable def J2 (P:Program) (call:ib) (ps:List (Nat × Nat)) (gs:List SG) (e:ES):ER:=match MI P call gs [] e with
 | some (e',recs)=>match MP recs ps with
  | true=>some (.normal,e')
  | false=>none
 | none=>none
noncomputable def SY (run:w7) (x y:DC) (e:ES):ER:=match run x e with
 | some (.normal,e')=>run y e'
 | r=>r
noncomputable def QQ (run:w7) (c:SX) (x y:DC) (e:ES):ER:=match c.at e.T with
 | .val (.bool true)=>run x e
 | .val (.bool false)=>run y e
 | _=>none
noncomputable def NO (run:w7) (id:Nat) (c:DC) (e:ES):ER:=match run c e with
 | some (r,e')=>some (pH id r,e')
 | none=>none
noncomputable def QE (run:w7) (c:DC) (e:ES):ER:=match run c e with
 | some (.normal,e')=>run (.loop c) e'
 | r=>r
noncomputable def lZ (P:Program) (call:ib) (run:w7) (c:DC):ES->ER:=match c with
 | .skip=>NJ
 | .region ps gs=>J2 P call ps gs
 | .seq x y=>SY run x y
 | .cond c x y=>QQ run c x y
 | .block id c=>NO run id c
 | .loop c=>QE run c
 | .exit id=>λe=>some (.exit id,e)
 | .ret=>λe=>some (.ret,e)
noncomputable def O3 (r:SR) (e:ES):Option V:=match r with
 | .tmp t=>some (e.T t)
 | .cell t sz=>match e.T t with
  | .ptr id i j=>match e.V id with
   | .arr _ es=>if i < es.length then lY sz (es.getD i []) j else none
   | _=>none
  | .aF e j=>lY sz e j
  | _=>none
noncomputable def vM:List SR->ES->Option (List V)
 | [],_=>some []
 | r :: l,e=>match O3 r e,vM l e with
  | some v,some vs=>some (v :: vs)
  | _,_=>none
noncomputable def mB:List V->Nat->cz V->cz V
 | [],_,t=>t
 | v :: vs,i,t=>mB vs (i+1) (t.put .any v deep i)
structure DF where
 code:DC
 res:List SR
 n:Nat
noncomputable def Si (l:List SR) (r:ER):Option (V × ES):=match r with
 | some (.ret,e)=>(vM l e).map λvs=>(vz vs,e)
 | some (.normal,e)=>(vM l e).map λvs=>(vz vs,e)
 | _=>none
noncomputable def Sq (m:Nat) (r:Option (V × ES)):Option (V × ES):=match r with
 | some (v,e)=>some (v,⟨e.L,e.H,e.n,e.w.filter λid=>Nat.blt id m⟩)
 | none=>none
noncomputable def SD (run:w7) (F:DF) (vs:List V) (e:ES):Option (V × ES):=match Nat.ble vs.length F.n,Nat.ble F.n 8000 with
 | true,true=>Sq e.n (Si F.res (run F.code ⟨mB vs 0 .nil,e.H,e.n,[]⟩))
 | _,_=>none
abbrev zX:=FuncId->List V->View->Option V
noncomputable def E2 (P:Program) (tab:List (FuncId × DF)) (ext:zX) (run:w7) (g:FuncId) (vs:List V) (e:ES):Option (V × ES):=match ext g vs e.V with
 | some t=>some (t,⟨e.L,e.H,e.n,[]⟩)
 | none=>match tab.find? (λp=>Nat.beq p.1 g) with
  | some (_,F)=>SD run F vs e
  | none=>none
noncomputable def Fi (P:Program) (tab:List (FuncId × DF)) (ext:zX):Nat->w7
 | 0=>λ_ _=>none
 | k+1=>lZ P (E2 P tab ext (Fi P tab ext k)) (Fi P tab ext k)
def BA (all:List Oper) (ls:List Nat):List (Nat × Nat) :=
 let b:=fo all []
 (ls.zipIdx.map λ(x,i)=>(ls.zipIdx.filter λ(y,k)=>decide (i < k) && !(ordered b i k || x == 0 || y == 0 || (decide (x<=1) && decide (y<=1)))).map λ(_,k)=>(i,k)).flatten
def G8 (P:Program) (n:Nat) (fz:List Nat) (ops:List Oper) (draw:Bool):Option DC:=match dq P n ops ⟨fz,false⟩ ops with
 | none=>none
 | some l=>if !(group l).all tx then none else
  if draw then (if lL ops then some (.region (BA ops (l.map λs=>iF P false s.b)) (group l)) else none) else some (.region [] (group l))
def iR (P:Program) (n:Nat) (fz:List Nat):Code->Option DC
 | .skip=>some .skip
 | .region _ ops draw=>G8 P n fz ops.toList draw
 | .seq x y=>match iR P n fz x,iR P n fz y with
  | some a,some b=>some (.seq a b)
  | _,_=>none
 | .cond c x y=>match iR P n fz x,iR P n fz y with
  | some a,some b=>some (.cond (SX.of c) a b)
  | _,_=>none
 | .block id c=>(iR P n fz c).map (.block id)
 | .loop c=>(iR P n fz c).map .loop
 | .exit id=>some (.exit id)
 | .ret=>some .ret
 | _=>none
abbrev U4 (l:List (Option Nat × SB)):DC:=.region [] [⟨none,l⟩]
def FI (P:Program) (f:FuncId) (fz:List Nat):Option DF:=match P.funcs[f]? with
 | some fn=>match fn.body with
  | some c=>match iR P fn.ntmps fz c,fu P fn.results.toList,di P f with
   | some sc,some rs,true=>some ⟨sc,rs,fn.ntmps⟩
   | _,_,_=>none
  | none=>none
 | none=>none
end Gv

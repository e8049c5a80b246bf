/-
  Part 6 of the proof: what the machine does and what the functions answer.
  Conditions: those that each lemma names.
-/
import Derived.Test.YtiophifnkakjgaaGreatSGzB7E
set_option linter.unusedSimpArgs false
set_option linter.unusedVariables false
set_option maxRecDepth 100000
set_option maxHeartbeats 20000000
namespace Gv
open Go Go.Proofs
structure Term where
 name:ByteArray
 level:Int
 assoc:Int
structure bk where
 left:Int
 right:List Int
 prec:Int
structure af where
 ao:List Term
 aj:List ByteArray
 rules:List bk
 start:Int
instance:Inhabited Term:=⟨⟨.empty,0,0⟩⟩
instance:Inhabited bk:=⟨⟨0,[],0⟩⟩
def de (t:Term):List V:=[gs t.name,gi t.level,gi t.assoc]
def aQ (r:bk):List V:=[gi r.left,encI r.right,gi r.prec]
def encS (l:List ByteArray):V:=.aT (l.map λs=>[gs s])
def ag (g:af):List V:=[.aT (g.ao.map de),encS g.aj,.aT (g.rules.map aQ),gi g.start]
theorem eY {α:Type} (l:List α) (f:α->List V) (h:∀ x∈l,∀ v∈f x,Tree v):Tree (.aT (l.map f)):=by
 refine .aT _ λi j hi a=>?_
 simp only[Sv] at hi
 have e:(l.map f).getD i []=f l[i]:=by simp[Sm,hi]
 rw[e] at a ⊢
 have b:(f l[i]).getD j .any=(f l[i])[j]:=by simp[Sm,a]
 rw[b]
 exact h _ (Sx _) _ (Sx _)
theorem cn (cs:List V) (h:∀ v∈cs,Tree v):Tree (.agg cs):=by
 refine .agg _ λi hi=>?_
 have a:cs.getD i .any=cs[i]:=by simp[Sm,hi]
 rw[a];exact h _ (Sx _)
theorem wu (l:List ByteArray):Tree (encS l):=eY _ _ λx _ v a=>by simp at a;subst a;exact .val _
theorem rL (t:Term):∀ v∈de t,Tree v:=by intro v a;simp[de] at a;rcases a with rfl | rfl | rfl <;> exact .val _
theorem gV (r:bk):∀ v∈aQ r,Tree v:=by
 intro v a;simp[aQ] at a;rcases a with rfl | rfl | rfl
 .exact .val _
 .exact bU _
 .exact .val _
theorem cM (g:af):∀ v∈ag g,Tree v:=by
 intro v a;simp[ag] at a;rcases a with rfl | rfl | rfl | rfl
 .exact eY _ _ λx _=>rL x
 .exact wu _
 .exact eY _ _ λx _=>gV x
 .exact .val _
def bK (x:Int):Prop:=-9223372036854775808<=x/\x<=9223372036854775807
structure af.Ok (g:af):Prop where
 ao:aK g.ao
 aj:aK g.aj
 rules:aK g.rules
 start:bK g.start
 term:∀ t∈g.ao,bK t.level/\bK t.assoc
 aw:∀ r∈g.rules,bK r.left/\bK r.prec/\aK r.right/\∀ x∈r.right,bK x
def eo (g:af) (s:Int):Bool:=if 0<=s then decide (s < g.ao.length) else decide (-1 - s < g.aj.length)
def qf:SF:=⟨ae [ab [cG 2 0,bm 4 false],ae [ab [aa 5 1,aF 6 .geq 5 0],bf 6 (ae [ab [aa 7 1,al 8 0 2,ak 9 8,aP 10 9,aU 11 .lss 7 10,aa 4 11],.ret])],ab [aa 12 1,((some 13),.op (.arith .sub (.val (.val (.int .i64 (-1)))) (.tmp 12))),al 14 1 2,ak 15 14,aP 16 15,aU 17 .lss 13 16,aa 4 17],.ret],
 [.tmp 4],18⟩
theorem uX:aI Tryz.prog 74 [2]=some qf:=by kernel_rfl
theorem Qi (g:af) (s:Int) (a:bK s) (H:View):au Tryz.prog 74 [.agg (ag g),gi s] H λr H'=>r=gb (eo g s)/\H'=H:=by
 refine au.of mixed uX ?_
 obtain⟨h1,b⟩:=a
 simp(disch:=omega)only[↓wr,seval,wq,qf,ag,encS]
 apply ai.dec<;>intro h
 .simp(disch:=omega)only[↓wr,seval,wq]
  simp[eo,show (0:Int)<=s from h]
 .simp(disch:=omega)only[↓wr,seval,wq]
  simp[eo,show ¬ (0:Int)<=s from h]
theorem QB (g:af) (s:Int) (b:bK s):ay Tryz.prog 74 [.agg (ag g),gi s] (gb (eo g s)) :=
 ay.of (by
  intro v a;simp at a
  rcases a with rfl | rfl
  .exact cn _ (cM g)
  .exact .val _) ((Qi g s b _).mono λr H' h c _=>by rw[h.1];exact .tree _ (.val _))
def nI (g:af):Bool:=decide (40 < g.ao.length) || decide (40 < g.aj.length) || decide (60 < g.rules.length) || g.rules.any λr=>decide (20 < r.right.length)
def l8:SC :=
 ae [ae [ab [aa 20 3,al 21 2 1,ak 22 21,aP 23 22,aU 24 .lss 20 23],cb 24 (.exit 0)],.block 1 (ae [ab [al 27 2 1,ak 28 27,aa 29 3,aZ 30 3 28 29,al 31 1 30,ak 32 31,aP 33 32,aF 34 .gtr 33 20],bf 34 (ae [ab [bm 2 true],.ret])]),ab [aa 25 3,aF 26 .add 25 1,aa 3 26]]
def ow:SF:=⟨ae [ab [cG 1 0,bm 2 false],ae [.region false [⟨none,[al 4 0 1,ak 5 4,aP 6 5,aF 7 .gtr 6 40,aa 8 7]⟩,⟨(some (8,false)),[al 9 1 1,ak 10 9,aP 11 10,aF 12 .gtr 11 40]⟩,⟨none,[cR 13 8 12,aa 14 13]⟩,⟨(some (14,false)),[al 15 2 1,ak 16 15,aP 17 16,aF 18 .gtr 17 60]⟩,⟨none,[cR 19 14 18]⟩],bf 19 (ae [ab [bm 2 true],.ret])],ae [ab [aR 3 0],cd 0 l8],ab [bm 2 false],.ret],
 [.tmp 2],35⟩
theorem sO:aI Tryz.prog 14 [1]=some ow:=by kernel_rfl
theorem Oj (g:af) (H:View):au Tryz.prog 14 [.agg (ag g)] H λr H'=>r=gb (nI g)/\H'=H:=by
 refine au.of mixed sO ?_
 simp(disch:=omega)only[↓wr,seval,wq,ow,ag,encS]
 apply ai.dec<;>intro h1
 .simp(disch:=omega)only[↓wr,seval,wq]
  simp[nI,show 40 < g.ao.length by omega]
 .simp(disch:=omega)only[↓wr,seval,wq]
  apply ai.dec<;>intro d
  .simp(disch:=omega)only[↓wr,seval,wq]
   simp[nI,show 40 < g.aj.length by omega]
  .simp(disch:=omega)only[↓wr,seval,wq]
   apply ai.dec<;>intro f
   .simp(disch:=omega)only[↓wr,seval,wq]
    simp[nI,show 60 < g.rules.length by omega]
   .simp(disch:=omega)only[↓wr,seval,wq]
    refine aY.intro (λk T H'=>∃ i:Nat,i+k=g.rules.length/\(∀ r∈g.rules.take i,¬ 20 < r.right.length)/\T 1=.aG (ag g) 0/\T 3=gi i/\H'=H) g.rules.length ?_ ?_
    .exact⟨0,by omega,by simp,rfl,rfl,rfl⟩
    .rintro k T H' ⟨i,hk,hi,a,b,rfl⟩
     simp(disch:=omega)only[↓wr,seval,wq,l8,a,b,ag]
     apply ai.dec<;>intro h
     .have c:g.rules[i]?=some (g.rules[i]'(by omega)):=Sn (by omega)
      simp(disch:=omega)only[↓wr,seval,wq,a,b,ag,aQ,encI,Ss,c,SD]
      apply ai.dec<;>intro j
      .simp(disch:=omega)only[↓wr,seval,wq]
       have:g.rules.any (λr=>decide (20 < r.right.length))=true:=by
        simp only[Uj,SN]
        exact⟨g.rules[i]'(by omega),Sx _,by omega⟩
       simp[nI,this]
      .simp(disch:=omega)only[↓wr,seval,wq,a,b]
       refine⟨k - 1,by omega,i+1,by omega,?_,rfl,rfl⟩
       intro r hr
       rw[S6,c] at hr
       simp only[Option.toList_some,SS,Tz] at hr
       rcases hr with hr | rfl
       .exact hi r hr
       .omega
     .simp(disch:=omega)only[↓wr,seval,wq,a,b]
      have e:i=g.rules.length:=by omega
      rw[SL (by omega)] at hi
      have:g.rules.any (λr=>decide (20 < r.right.length))=false:=by
       simp only[List.any_eq_false,SN];exact hi
      simp only[nI,this]
      simp;omega
def fQ (l:List Int) (is:List Bool) (ao:Bool):Bool:=l.all λs=>if 0<=s then ao else is.getD (-1 - s).toNat false
def ov:SC :=
 ae [ae [ab [aa 8 7,aa 9 0,aP 10 9,aU 11 .lss 8 10],cb 11 (.exit 0)],.block 1 (ae [.region false [⟨none,[aa 14 0,aa 15 7,aZ 16 1 14 15,ak 17 16,aF 18 .geq 17 0,aa 19 18]⟩,⟨(some (19,true)),[aa 20 2,dp 21 20]⟩,⟨none,[eA 22 19 21,aa 23 22]⟩,⟨(some (23,false)),[aa 24 0,aa 25 7,aZ 26 1 24 25,ak 27 26,aF 28 .lss 27 0,aa 29 28]⟩,⟨(some (29,true)),[aa 30 1,aa 31 0,aa 32 7,aZ 33 1 31 32,ak 34 33,((some 35),.op (.arith .sub (.val (.val (.int .i64 (-1)))) (.tmp 34))),aZ 36 1 30 35,ak 37 36,dp 38 37]⟩,⟨(some (23,false)),[eA 39 29 38]⟩,⟨none,[cR 40 23 39]⟩],bf 40 (ae [ab [bm 6 false],.ret])]),ab [aa 12 7,aF 13 .add 12 1,aa 7 13]]
def qc:SF:=⟨ae [ab [bm 6 false],ae [ab [aR 7 0],cd 0 ov],ab [bm 6 true],.ret],
 [.tmp 6],41⟩
theorem vm:aI Tryz.prog 95 []=some qc:=by kernel_rfl
theorem P8 (l:List Int) (is:List Bool) (t:Bool) (p:aK l) (q:∀ s∈l,bK s/\(s < 0->-1 - s < is.length)) (H:View) :
  au Tryz.prog 95 [encI l,cq is,gb t] H λr H'=>r=gb (fQ l is t)/\H'=H:=by
 refine au.of mixed vm ?_
 unfold aK at p
 simp(disch:=omega)only[↓wr,seval,wq,qc]
 refine aY.intro (λk T H'=>∃ i:Nat,i+k=l.length/\fQ (l.take i) is t=true/\T 0=encI l/\T 1=cq is/\T 2=gb t/\T 7=gi i/\H'=H) l.length ?_ ?_
 .exact⟨0,by omega,by simp[fQ],rfl,rfl,rfl,rfl,rfl⟩
 .rintro k T H' ⟨i,hk,hi,d,h1,f,g,rfl⟩
  simp(disch:=omega)only[↓wr,seval,wq,ov,d,h1,f,g,encI]
  apply ai.dec<;>intro u
  .have h:l[i]?=some (l[i]'(by omega)):=Sn (by omega)
   have hm:l[i]'(by omega)∈l:=Sx _
   generalize l[i]'(by omega)=s at h hm
   obtain⟨⟨v,w⟩,x⟩:=q s hm
   have a:fQ (l.take (i+1)) is t=(if 0<=s then t else is.getD (-1 - s).toNat false):=by
    rw[S6,h]
    simp only[fQ,Option.toList_some,List.all_append,TU,List.all_nil,Bool.and_true] at hi ⊢
    rw[hi,TC]
   have c:(if 0<=s then t else is.getD (-1 - s).toNat false)=false->fQ l is t=false:=by
    intro j
    simp only[fQ,List.all_eq_false]
    exact⟨s,hm,by simpa using j⟩
   simp(disch:=omega)only[↓wr,seval,wq,d,h1,f,g,encI,Ss,h,SD]
   apply ai.dec<;>intro n
   .rw[St (show 0<=s from n)] at a c
    cases t with
    | true =>
     simp(disch:=omega)only[↓wr,seval,wq,d,h1,f,g,encI,Ss,h,SD]
     refine ai.dec (λm=>absurd m (by omega)) (λ_=>?_)
     simp(disch:=omega)only[↓wr,seval,wq,d,h1,f,g,encI,cq,Ss,h,SD]
     exact⟨k - 1,by omega,i+1,by omega,a,rfl⟩
    | false =>
     simp(disch:=omega)only[↓wr,seval,wq,d,h1,f,g,encI,Ss,h,SD]
     rw[c rfl]
   .rw[Sr (show ¬ 0<=s from n)] at a c
    simp(disch:=omega)only[↓wr,seval,wq,d,h1,f,g,encI,Ss,h,SD]
    refine ai.dec (λm=>?_) (λm=>absurd m (by omega))
    have j:is[(-1 - s).toNat]?=some (is[(-1 - s).toNat]'(by omega)):=Sn (by omega)
    have o:is.getD (-1 - s).toNat false=is[(-1 - s).toNat]'(by omega):=by simp[Sm,j]
    rw[o] at a c
    generalize is[(-1 - s).toNat]'(by omega)=b at j a c
    simp(disch:=omega)only[↓wr,seval,wq,d,h1,f,g,encI,cq,Ss,h,j,SD]
    cases b with
    | true =>
     simp(disch:=omega)only[↓wr,seval,wq,d,h1,f,g,encI,cq,Ss,h,j,SD]
     exact⟨k - 1,by omega,i+1,by omega,a,rfl⟩
    | false =>
     simp(disch:=omega)only[↓wr,seval,wq,d,h1,f,g,encI,cq,Ss,h,j,SD]
     rw[c rfl]
  .simp(disch:=omega)only[↓wr,seval,wq,d,h1,f,g]
   have e:i=l.length:=by omega
   rw[SL (by omega)] at hi
   rw[hi]
abbrev gy (x:Int):V:=.val (.int .u8 x)
def tF (c:Int):Bool:=(decide (97<=c) && decide (c<=122)) || (decide (65<=c) && decide (c<=90)) || c == 95
def nL (c:Int):Bool:=tF c || (decide (48<=c) && decide (c<=57)) || c == 46
def og:SF:=⟨ae [ab [bm 2 false],.region false [⟨none,[aa 3 0,((some 4),.op (.arith .geq (.tmp 3) (.val (.val (.int .u8 97))))),aa 5 4]⟩,⟨(some (5,true)),[aa 6 0,((some 7),.op (.arith .leq (.tmp 6) (.val (.val (.int .u8 122)))))]⟩,⟨none,[eA 8 5 7,aa 9 8]⟩,⟨(some (9,false)),[aa 10 0,((some 11),.op (.arith .geq (.tmp 10) (.val (.val (.int .u8 65))))),aa 12 11]⟩,⟨(some (12,true)),[aa 13 0,((some 14),.op (.arith .leq (.tmp 13) (.val (.val (.int .u8 90)))))]⟩,⟨(some (9,false)),[eA 15 12 14]⟩,⟨none,[cR 16 9 15,aa 17 16]⟩,⟨(some (17,false)),[aa 18 0,((some 19),.op (.arith .eql (.tmp 18) (.val (.val (.int .u8 95)))))]⟩,⟨none,[cR 20 17 19,aa 2 20]⟩],.ret],
 [.tmp 2],21⟩
theorem sV:aI Tryz.prog 233 []=some og:=by kernel_rfl
def ox:SF:=⟨ae [ab [bm 2 false],.region false [⟨none,[aa 3 0,bg 4 233 [3],aa 5 4]⟩,⟨(some (5,false)),[aa 6 0,((some 7),.op (.arith .geq (.tmp 6) (.val (.val (.int .u8 48))))),aa 8 7]⟩,⟨(some (8,true)),[aa 9 0,((some 10),.op (.arith .leq (.tmp 9) (.val (.val (.int .u8 57)))))]⟩,⟨(some (5,false)),[eA 11 8 10]⟩,⟨none,[cR 12 5 11,aa 13 12]⟩,⟨(some (13,false)),[aa 14 0,((some 15),.op (.arith .eql (.tmp 14) (.val (.val (.int .u8 46)))))]⟩,⟨none,[cR 16 13 15,aa 2 16]⟩],.ret],
 [.tmp 2],17⟩
theorem sG:aI Tryz.prog 234 []=some ox:=by kernel_rfl
theorem Oo (c:Int) (H:View):au Tryz.prog 233 [gy c] H λr H'=>r=gb (tF c)/\H'=H:=by
 refine au.of mixed sV ?_
 repeat' (first | ((first|apply ai.dec|apply ai.eq|apply ai.ne|apply ai.split)<;>intro)|(simp(disch:=omega)only[↓wr,seval,wq,og]))
 all_goals (congr 2;simp only[tF];grind)
theorem Fk (c:Int):ay Tryz.prog 233 [gy c] (gb (tF c)) :=
 ay.of (by intro v a;simp at a;subst a;exact .val _) ((Oo c _).mono λr H' h b _=>by rw[h.1];exact .tree _ (.val _))
theorem NQ (c:Int) (H:View):au Tryz.prog 234 [gy c] H λr H'=>r=gb (nL c)/\H'=H:=by
 refine au.of mixed sG ?_
 repeat' (first | ((first|apply ai.dec|apply ai.eq|apply ai.ne|apply ai.split)<;>intro)|(simp(disch:=omega)only[↓wr,seval,wq,ox]))
 refine av.pure (Fk c) ?_
 repeat' (first | ((first|apply ai.dec|apply ai.eq|apply ai.ne|apply ai.split)<;>intro)|(simp(disch:=omega)only[↓wr,seval,wq]))
 all_goals (congr 2;simp only[nL];grind)
theorem Nt (c:Int):ay Tryz.prog 234 [gy c] (gb (nL c)) :=
 ay.of (by intro v a;simp at a;subst a;exact .val _) ((NQ c _).mono λr H' h b _=>by rw[h.1];exact .tree _ (.val _))
def gv (l:List Int):Bool:=decide (0 < l.length) && decide (l.length<=20) && (match l with | c :: _=>tF c | []=>false) && l.all nL
def mZ:SC :=
 ae [ae [ab [aa 18 3,aa 19 0,((some 20),.op (.oA (.tmp 19))),aU 21 .lss 18 20],cb 21 (.exit 0)],.block 1 (ae [ab [aa 24 0,aa 25 3,((some 26),.op (.hU (.tmp 24) (.tmp 25))),bg 27 234 [26],dp 28 27],bf 28 (ae [ab [bm 2 false],.ret])]),ab [aa 22 3,aF 23 .add 22 1,aa 3 23]]
def pG:SF:=⟨ae [ab [bm 2 false],ae [.region false [⟨none,[aa 4 0,((some 5),.op (.oA (.tmp 4))),aF 6 .eql 5 0,aa 7 6]⟩,⟨(some (7,false)),[aa 8 0,((some 9),.op (.oA (.tmp 8))),aF 10 .gtr 9 20]⟩,⟨none,[cR 11 7 10,aa 12 11]⟩,⟨(some (12,false)),[aa 13 0,((some 14),.op (.hU (.tmp 13) (.val (.val (.int .i64 0))))),bg 15 233 [14],dp 16 15]⟩,⟨none,[cR 17 12 16]⟩],bf 17 (ae [ab [bm 2 false],.ret])],ae [ab [aR 3 0],cd 0 mZ],ab [bm 2 true],.ret],
 [.tmp 2],29⟩
theorem tS:aI Tryz.prog 172 []=some pG:=by kernel_rfl
theorem LS (s:ByteArray) (H:View):au Tryz.prog 172 [gs s] H λr H'=>r=gb (gv (fq s))/\H'=H:=by
 refine au.of mixed tS ?_
 repeat' (first | ((first|apply ai.dec|apply ai.eq|apply ai.ne|apply ai.split)<;>intro)|(simp(disch:=omega)only[↓wr,seval,wq,pG,eD]))
 .rename_i h
  congr 2;simp[gv,show (fq s).length=0 by omega]
 .rename_i h
  congr 2;simp[gv,show ¬ (fq s).length<=20 by omega]
 .rename_i h1 g
  cases a:fq s with
  | nil=>simp[a] at h1
  | cons c l =>
   repeat' (first | ((first|apply ai.dec|apply ai.eq|apply ai.ne|apply ai.split)<;>intro)|(simp(disch:=omega)only[↓wr,seval,wq,a,S3,eD]))
   refine av.pure (Fk c) ?_
   repeat' (first | ((first|apply ai.dec|apply ai.eq|apply ai.ne|apply ai.split)<;>intro)|(simp(disch:=omega)only[↓wr,seval,wq,a,S3,eD]))
   .rename_i j
    refine aY.intro (λk T H'=>∃ i:Nat,i+k=(c :: l).length/\((c :: l).take i).all nL=true/\T 0=gs s/\T 3=gi i/\H'=H) (c :: l).length ?_ ?_
    .exact⟨0,by omega,by simp,rfl,rfl,rfl⟩
    .rintro k T H' ⟨i,hk,hi,b,e,rfl⟩
     rw[a] at h1 g
     simp(disch:=omega)only[↓wr,seval,wq,mZ,b,e,eD,a]
     apply ai.dec<;>intro m
     .simp only[SA] at m hk g
      have f:(c :: l)[i]?=some ((c :: l)[i]'(by simp;omega)):=Sn (by simp;omega)
      have hm:(c :: l)[i]'(by simp;omega)∈c :: l:=Sx _
      generalize (c :: l)[i]'(by simp;omega)=d at f hm
      simp(disch:=omega)only[↓wr,seval,wq,b,e,eD,a,f]
      refine av.pure (Nt d) ?_
      repeat' (first | ((first|apply ai.dec|apply ai.eq|apply ai.ne|apply ai.split)<;>intro)|(simp(disch:=omega)only[↓wr,seval,wq,b,e,eD,a,f]))
      .rename_i n
       refine⟨k - 1,by omega,i+1,by omega,?_,rfl⟩
       rw[S6,f]
       simp only[Option.toList_some,List.all_append,hi,TU,n,List.all_nil,Bool.and_self]
      .rename_i n
       congr 2
       have:(c :: l).all nL=false:=by
        rw[List.all_eq_false];exact⟨d,hm,by simp[n]⟩
       simp only[gv,this,Bool.and_false]
     .simp(disch:=omega)only[↓wr,seval,wq,b,e]
      simp only[SA] at m hk g
      rw[SL (by simp;omega)] at hi
      congr 2
      simp only[gv,hi,SA]
      simp[j];omega
   .rename_i j
    congr 2;simp[gv,j]
def lO:List Int->Bool
 | [a,b,c]=>a == 39 && c == 39 && decide (32<=b) && decide (b<=126) && b != 39 && b != 92
 | [a,b,c,d]=>a == 39 && d == 39 && b == 92 && (c == 110 || c == 116 || c == 92 || c == 39)
 | _=>false
theorem NU {l:List Int} (a:l.length≠3) (b:l.length≠4):lO l=false:=by
 match l,a,b with
 | [],_,_=>rfl
 | [_],_,_=>rfl
 | [_,_],_,_=>rfl
 | [_,_,_],a,_=>exact absurd rfl a
 | [_,_,_,_],_,b=>exact absurd rfl b
 | _ :: _ :: _ :: _ :: _ :: _,_,_=>rfl
theorem Rv {α:Type} {l:List α} (h:l.length=3):∃ a b c,l=[a,b,c]:=by
 match l,h with
 | [a,b,c],_=>exact⟨a,b,c,rfl⟩
theorem RE {α:Type} {l:List α} (h:l.length=4):∃ a b c d,l=[a,b,c,d]:=by
 match l,h with
 | [a,b,c,d],_=>exact⟨a,b,c,d,rfl⟩
def mE:SF:=⟨ae [ab [bm 2 false],ae [ab [aa 3 0,((some 4),.op (.oA (.tmp 3))),aF 5 .eql 4 3],bf 5 (ae [.region false [⟨none,[aa 6 0,((some 7),.op (.hU (.tmp 6) (.val (.val (.int .i64 0))))),((some 8),.op (.arith .eql (.tmp 7) (.val (.val (.int .u8 39))))),aa 9 8]⟩,⟨(some (9,true)),[aa 10 0,((some 11),.op (.hU (.tmp 10) (.val (.val (.int .i64 2))))),((some 12),.op (.arith .eql (.tmp 11) (.val (.val (.int .u8 39)))))]⟩,⟨none,[eA 13 9 12,aa 14 13]⟩,⟨(some (14,true)),[aa 15 0,((some 16),.op (.hU (.tmp 15) (.val (.val (.int .i64 1))))),((some 17),.op (.arith .geq (.tmp 16) (.val (.val (.int .u8 32)))))]⟩,⟨none,[eA 18 14 17,aa 19 18]⟩,⟨(some (19,true)),[aa 20 0,((some 21),.op (.hU (.tmp 20) (.val (.val (.int .i64 1))))),((some 22),.op (.arith .leq (.tmp 21) (.val (.val (.int .u8 126)))))]⟩,⟨none,[eA 23 19 22,aa 24 23]⟩,⟨(some (24,true)),[aa 25 0,((some 26),.op (.hU (.tmp 25) (.val (.val (.int .i64 1))))),((some 27),.op (.arith .neq (.tmp 26) (.val (.val (.int .u8 39)))))]⟩,⟨none,[eA 28 24 27,aa 29 28]⟩,⟨(some (29,true)),[aa 30 0,((some 31),.op (.hU (.tmp 30) (.val (.val (.int .i64 1))))),((some 32),.op (.arith .neq (.tmp 31) (.val (.val (.int .u8 92)))))]⟩,⟨none,[eA 33 29 32,aa 2 33]⟩],.ret])],.region false [⟨none,[aa 34 0,((some 35),.op (.oA (.tmp 34))),aF 36 .eql 35 4,aa 37 36]⟩,⟨(some (37,true)),[aa 38 0,((some 39),.op (.hU (.tmp 38) (.val (.val (.int .i64 0))))),((some 40),.op (.arith .eql (.tmp 39) (.val (.val (.int .u8 39)))))]⟩,⟨none,[eA 41 37 40,aa 42 41]⟩,⟨(some (42,true)),[aa 43 0,((some 44),.op (.hU (.tmp 43) (.val (.val (.int .i64 3))))),((some 45),.op (.arith .eql (.tmp 44) (.val (.val (.int .u8 39)))))]⟩,⟨none,[eA 46 42 45,aa 47 46]⟩,⟨(some (47,true)),[aa 48 0,((some 49),.op (.hU (.tmp 48) (.val (.val (.int .i64 1))))),((some 50),.op (.arith .eql (.tmp 49) (.val (.val (.int .u8 92)))))]⟩,⟨none,[eA 51 47 50,aa 52 51]⟩,⟨(some (52,true)),[aa 53 0,((some 54),.op (.hU (.tmp 53) (.val (.val (.int .i64 2))))),((some 55),.op (.arith .eql (.tmp 54) (.val (.val (.int .u8 110))))),aa 56 55]⟩,⟨(some (56,false)),[aa 57 0,((some 58),.op (.hU (.tmp 57) (.val (.val (.int .i64 2))))),((some 59),.op (.arith .eql (.tmp 58) (.val (.val (.int .u8 116)))))]⟩,⟨(some (52,true)),[cR 60 56 59,aa 61 60]⟩,⟨(some (61,false)),[aa 62 0,((some 63),.op (.hU (.tmp 62) (.val (.val (.int .i64 2))))),((some 64),.op (.arith .eql (.tmp 63) (.val (.val (.int .u8 92)))))]⟩,⟨(some (52,true)),[cR 65 61 64,aa 66 65]⟩,⟨(some (66,false)),[aa 67 0,((some 68),.op (.hU (.tmp 67) (.val (.val (.int .i64 2))))),((some 69),.op (.arith .eql (.tmp 68) (.val (.val (.int .u8 39)))))]⟩,⟨(some (52,true)),[cR 70 66 69]⟩,⟨none,[eA 71 52 70,aa 2 71]⟩],.ret],
 [.tmp 2],72⟩
theorem rq:aI Tryz.prog 232 []=some mE:=by kernel_rfl
def ot:SF:=⟨ae [ab [bm 2 false],.region false [⟨none,[aa 3 0,bg 4 172 [3],aa 5 4]⟩,⟨(some (5,false)),[aa 6 0,bg 7 232 [6]]⟩,⟨none,[cR 8 5 7,aa 2 8]⟩],.ret],
 [.tmp 2],9⟩
theorem sR:aI Tryz.prog 169 []=some ot:=by kernel_rfl
theorem Ns (s:ByteArray) (H:View):au Tryz.prog 232 [gs s] H λr H'=>r=gb (lO (fq s))/\H'=H:=by
 refine au.of mixed rq ?_
 simp(disch:=omega)only[↓wr,seval,wq,mE,eD]
 apply ai.eq<;>intro h
 .obtain⟨a,b,c,e⟩:=Rv (l:=fq s) (by omega)
  repeat' (first | ((first|apply ai.dec|apply ai.eq|apply ai.ne|apply ai.split)<;>intro)|(simp(disch:=omega)only[↓wr,seval,wq,e,S3,Tl]))
  all_goals (congr 2;simp only[lO];grind)
 .simp(disch:=omega)only[↓wr,seval,wq,eD]
  apply ai.eq<;>intro f
  .obtain⟨a,b,c,d,e⟩:=RE (l:=fq s) (by omega)
   repeat' (first | ((first|apply ai.dec|apply ai.eq|apply ai.ne|apply ai.split)<;>intro)|(simp(disch:=omega)only[↓wr,seval,wq,e,S3,Tl]))
   all_goals (congr 2;simp only[lO];grind)
  .repeat' (first | ((first|apply ai.dec|apply ai.eq|apply ai.ne|apply ai.split)<;>intro)|(simp(disch:=omega)only[↓wr,seval,wq,eD]))
   rw[NU (by omega) (by omega)]
theorem oI (s:ByteArray):∀ v∈[gs s],Tree v:=by intro v a;simp at a;subst a;exact .val _
theorem Cm (s:ByteArray):ay Tryz.prog 172 [gs s] (gb (gv (fq s))) :=
 ay.of (oI s) ((LS s _).mono λr H' h a _=>by rw[h.1];exact .tree _ (.val _))
theorem NK (s:ByteArray):ay Tryz.prog 232 [gs s] (gb (lO (fq s))) :=
 ay.of (oI s) ((Ns s _).mono λr H' h a _=>by rw[h.1];exact .tree _ (.val _))
def pJ (l:List Int):Bool:=gv l || lO l
theorem Kj (s:ByteArray) (H:View):au Tryz.prog 169 [gs s] H λr H'=>r=gb (pJ (fq s))/\H'=H:=by
 refine au.of mixed sR ?_
 simp(disch:=omega)only[↓wr,seval,wq,ot]
 refine av.pure (Cm s) ?_
 repeat' (first | ((first|apply ai.dec|apply ai.eq|apply ai.ne|apply ai.split)<;>intro)|(simp(disch:=omega)only[↓wr,seval,wq]))
 .rename_i h;simp[pJ,h]
 .rename_i h
  refine av.pure (NK s) ?_
  repeat' (first | ((first|apply ai.dec|apply ai.eq|apply ai.ne|apply ai.split)<;>intro)|(simp(disch:=omega)only[↓wr,seval,wq]))
  simp[pJ,h]
theorem J8 (s:ByteArray):ay Tryz.prog 169 [gs s] (gb (pJ (fq s))) :=
 ay.of (oI s) ((Kj s _).mono λr H' h a _=>by rw[h.1];exact .tree _ (.val _))
def nB (s:ByteArray):List ByteArray->Int->Int
 | [],_=>-1
 | x :: l,i=>if iz x s=true then i else nB s l (i+1)
def qA (g:af) (s:ByteArray):Int:=nB s (g.ao.map Term.name) 0
def BG (g:af) (s:ByteArray):Int:=nB s g.aj 0
theorem eC {α:Type} {l:List α} {i:Nat} (h:i < l.length):l.drop i=l[i] :: l.drop (i+1):=To h
theorem DX (g:af) (s:ByteArray):∀ v∈[V.agg (ag g),gs s],Tree v:=by
 intro v a;simp at a
 rcases a with rfl | rfl
 .exact cn _ (cM g)
 .exact .val _
theorem fa (g:af):∀ v∈[V.agg (ag g)],Tree v:=by intro v a;simp at a;subst a;exact cn _ (cM g)
theorem FI (g:af) (x:Int):∀ v∈[V.agg (ag g),gi x],Tree v:=by
 intro v a;simp at a
 rcases a with rfl | rfl
 .exact cn _ (cM g)
 .exact .val _
theorem ay.val {P:Program} {f:FuncId} {vs:List V} {x:Value} (a:∀ v∈vs,Tree v) (h:∀ H,au P f vs H λr _=>r=.val x):ay P f vs (.val x) :=
 ay.of a ((h _).mono λr H' e b _=>by rw[e];exact .tree _ (.val _))
def nF:SC :=
 ae [ae [ab [aa 6 5,al 7 0 2,ak 8 7,aP 9 8,aU 10 .lss 6 9],cb 10 (.exit 0)],.block 1 (ae [ab [al 13 0 2,ak 14 13,aa 15 5,aZ 16 3 14 15,al 17 0 16,ak 18 17,aa 19 1,((some 20),.op (.vr .eql (.tmp 18) (.tmp 19)))],bf 20 (ae [ab [aa 21 5,aa 4 21],.ret])]),ab [aa 11 5,aF 12 .add 11 1,aa 5 12]]
def pT:SF:=⟨ae [ab [cG 2 0,aR 4 0],ae [ab [aR 5 0],cd 0 nF],ab [aR 4 (-1)],.ret],
 [.tmp 4],22⟩
theorem tD:aI Tryz.prog 170 [2]=some pT:=by kernel_rfl
def od:SC :=
 ae [ae [ab [aa 6 5,al 7 1 2,ak 8 7,aP 9 8,aU 10 .lss 6 9],cb 10 (.exit 0)],.block 1 (ae [ab [al 13 1 2,ak 14 13,aa 15 5,aZ 16 1 14 15,ak 17 16,aa 18 1,((some 19),.op (.vr .eql (.tmp 17) (.tmp 18)))],bf 19 (ae [ab [aa 20 5,aa 4 20],.ret])]),ab [aa 11 5,aF 12 .add 11 1,aa 5 12]]
def qh:SF:=⟨ae [ab [cG 2 0,aR 4 0],ae [ab [aR 5 0],cd 0 od],ab [aR 4 (-1)],.ret],
 [.tmp 4],21⟩
theorem uR:aI Tryz.prog 150 [2]=some qh:=by kernel_rfl
def mr:SC :=
 ae [ae [ab [aa 8 6,al 9 0 2,ak 10 9,aP 11 10,aU 12 .lss 8 11],cb 12 (.exit 0)],.block 1 (ae [.region false [⟨none,[al 15 0 2,ak 16 15,aa 17 6,aZ 18 3 16 17,ba 19 3 18,((some 7),.op (.alloc [(.val (.string ⟨#[]⟩)),(.val (.int .i64 0)),(.val (.int .i64 0))])),cL 3 7 19]⟩],ae [ab [al 20 1 7,ak 21 20,aa 22 1,aU 23 .neq 21 22],bf 23 (.exit 1)],ae [.region false [⟨none,[aa 24 5,aF 25 .neq 24 0,aa 26 25]⟩,⟨(some (26,true)),[aa 27 5,al 28 2 7,ak 29 28,aU 30 .neq 27 29]⟩,⟨none,[eA 31 26 30]⟩],bf 31 (ae [ab [bm 4 false],.ret])],ab [al 32 2 7,ak 33 32,aa 5 33]]),ab [aa 13 6,aF 14 .add 13 1,aa 6 14]]
def nQ:SF:=⟨ae [ab [cG 2 0,bm 4 false],ab [aR 5 0],ae [ab [aR 6 0],cd 0 mr],ab [aa 34 5,aF 35 .neq 34 0,aa 4 35],.ret],
 [.tmp 4],36⟩
theorem sL:aI Tryz.prog 171 [2]=some nQ:=by kernel_rfl
theorem MQ (g:af) (e:g.Ok) (s:ByteArray) (H:View):au Tryz.prog 170 [.agg (ag g),gs s] H λr _=>r=gi (qA g s):=by
 refine au.of mixed tD ?_
 have h:g.ao.length < 4611686018427387904:=e.ao
 simp(disch:=omega)only[↓wr,seval,wq,pT,ag,encS]
 refine aY.intro (λk T _=>∃ i:Nat,i+k=g.ao.length/\nB s ((g.ao.drop i).map Term.name) i=qA g s/\T 1=gs s/\T 2=.aG (ag g) 0/\T 5=gi i) g.ao.length ?_ ?_
 .exact⟨0,by omega,rfl,rfl,rfl,rfl⟩
 .rintro k T H' ⟨i,hk,hi,h1,a,b⟩
  simp(disch:=omega)only[↓wr,seval,wq,nF,h1,a,b,ag]
  apply ai.dec<;>intro f
  .have c:g.ao[i]?=some (g.ao[i]'(by omega)):=Sn (by omega)
   rw[eC (show i < g.ao.length by omega)] at hi
   generalize g.ao[i]'(by omega)=t at c hi
   simp only[S7,nB] at hi
   simp(disch:=omega)only[↓wr,seval,wq,h1,a,b,ag,de,Ss,c,SD]
   apply ai.split<;>intro d
   .rw[St d] at hi
    simp(disch:=omega)only[↓wr,seval,wq,h1,a,b]
    rw[hi]
   .rw[d,Sr (by simp)] at hi
    simp(disch:=omega)only[↓wr,seval,wq,h1,a,b]
    exact⟨k - 1,by omega,i+1,by omega,by push_cast;exact hi,rfl,rfl⟩
  .rw[S4 (by omega)] at hi
   simp only[T7,nB] at hi
   simp(disch:=omega)only[↓wr,seval,wq,h1,a,b]
   rw[hi]
theorem CV (g:af) (a:g.Ok) (s:ByteArray):ay Tryz.prog 170 [.agg (ag g),gs s] (gi (qA g s)):=ay.val (DX g s) (MQ g a s)
theorem N9 (g:af) (e:g.Ok) (s:ByteArray) (H:View):au Tryz.prog 150 [.agg (ag g),gs s] H λr _=>r=gi (BG g s):=by
 refine au.of mixed uR ?_
 have h:g.aj.length < 4611686018427387904:=e.aj
 simp(disch:=omega)only[↓wr,seval,wq,qh,ag,encS]
 refine aY.intro (λk T _=>∃ i:Nat,i+k=g.aj.length/\nB s (g.aj.drop i) i=BG g s/\T 1=gs s/\T 2=.aG (ag g) 0/\T 5=gi i) g.aj.length ?_ ?_
 .exact⟨0,by omega,rfl,rfl,rfl,rfl⟩
 .rintro k T H' ⟨i,hk,hi,h1,a,b⟩
  simp(disch:=omega)only[↓wr,seval,wq,od,h1,a,b,ag,encS]
  apply ai.dec<;>intro f
  .have c:g.aj[i]?=some (g.aj[i]'(by omega)):=Sn (by omega)
   rw[eC (show i < g.aj.length by omega)] at hi
   generalize g.aj[i]'(by omega)=t at c hi
   simp only[S7,nB] at hi
   simp(disch:=omega)only[↓wr,seval,wq,h1,a,b,ag,encS,Ss,c,SD]
   apply ai.split<;>intro d
   .rw[St d] at hi
    simp(disch:=omega)only[↓wr,seval,wq,h1,a,b]
    rw[hi]
   .rw[d,Sr (by simp)] at hi
    simp(disch:=omega)only[↓wr,seval,wq,h1,a,b]
    exact⟨k - 1,by omega,i+1,by omega,by push_cast;exact hi,rfl,rfl⟩
  .rw[S4 (by omega)] at hi
   simp only[T7,nB] at hi
   simp(disch:=omega)only[↓wr,seval,wq,h1,a,b]
   rw[hi]
theorem OL (g:af) (a:g.Ok) (s:ByteArray):ay Tryz.prog 150 [.agg (ag g),gs s] (gi (BG g s)):=ay.val (DX g s) (N9 g a s)
def jb (n:Int):List Term->Int->Option Int
 | [],CN=>some CN
 | t :: r,CN=>if t.level=n then (if CN≠0/\CN≠t.assoc then none else jb n r t.assoc) else jb n r CN
def gG (l:List Term) (n:Int):Bool:=match jb n l 0 with
 | some w=>w != 0
 | none=>false
theorem Kc (g:af) (l:g.Ok) (n:Int) (H:View):au Tryz.prog 171 [.agg (ag g),gi n] H λr _=>r=gb (gG g.ao n):=by
 refine au.of mixed sL ?_
 have p:g.ao.length < 4611686018427387904:=l.ao
 simp(disch:=omega)only[↓wr,seval,wq,nQ,ag,encS]
 refine aY.intro (λk T _=>∃ (i:Nat) (w:Int),i+k=g.ao.length/\jb n (g.ao.drop i) w=jb n g.ao 0/\T 1=gi n/\T 2=.aG (ag g) 0/\T 5=gi w/\T 6=gi i) g.ao.length ?_ ?_
 .exact⟨0,0,by omega,rfl,rfl,rfl,rfl,rfl⟩
 .rintro k T H' ⟨i,w,hk,hi,h1,c,d,f⟩
  simp(disch:=omega)only[↓wr,seval,wq,mr,h1,c,d,f,ag]
  apply ai.dec<;>intro o
  .have h:g.ao[i]?=some (g.ao[i]'(by omega)):=Sn (by omega)
   rw[eC (show i < g.ao.length by omega)] at hi
   generalize g.ao[i]'(by omega)=t at h hi
   simp only[jb] at hi
   simp(disch:=omega)only[↓wr,seval,wq,h1,c,d,f,ag,de,Ss,h,SD]
   intro m hm
   try simp(disch:=omega)only[↓wr,seval,wq,h1,c,d,f]
   apply ai.ne<;>intro j
   .rw[Sr j] at hi
    simp(disch:=omega)only[↓wr,seval,wq,h1,c,d,f]
    exact⟨k - 1,by omega,i+1,w,by omega,hi,by first | rfl | exact⟨rfl,rfl⟩ | exact⟨rfl,rfl,rfl⟩⟩
   .rw[St j] at hi
    repeat' (first | ((first|apply ai.dec|apply ai.eq|apply ai.ne|apply ai.split)<;>intro)|(simp(disch:=omega)only[↓wr,seval,wq,h1,c,d,f]))
    .rename_i a b
     rw[St ⟨a,b⟩] at hi
     simp only[gG,<-hi]
    .rename_i a b
     rw[Sr (λe=>e.2 b)] at hi
     exact⟨k - 1,by omega,i+1,_,by omega,hi,by first | rfl | exact⟨rfl,rfl⟩ | exact⟨rfl,rfl,rfl⟩⟩
    .rename_i a
     rw[Sr (λe=>e.1 a)] at hi
     exact⟨k - 1,by omega,i+1,_,by omega,hi,by first | rfl | exact⟨rfl,rfl⟩ | exact⟨rfl,rfl,rfl⟩⟩
  .rw[S4 (by omega)] at hi
   simp only[jb] at hi
   simp(disch:=omega)only[↓wr,seval,wq,h1,c,d,f]
   simp only[gG,<-hi]
theorem IW (g:af) (a:g.Ok) (n:Int):ay Tryz.prog 171 [.agg (ag g),gi n] (gb (gG g.ao n)):=ay.val (FI g n) (Kc g a n)
def rP (g:af) (t:Term):Bool:=(List.range t.level.toNat).all λk=>gG g.ao ((k:Int)+1)
def kQ (g:af) (i:Int) (t:Term):Bool :=
 pJ (fq t.name) && (qA g t.name == i) && decide (0<=t.level) && decide (t.level<=24) && decide (0<=t.assoc) && decide (t.assoc<=3) && ((t.level == 0) == (t.assoc == 0)) && rP g t
def mO (g:af):List Term->Int->Bool
 | [],_=>true
 | t :: r,i=>kQ g i t && mO g r (i+1)
def kN (g:af):Bool:=decide (g.ao.length<=24) && mO g g.ao 0
def mb:SC :=
 ae [ae [ab [aa 63 5,al 64 1 4,ak 65 64,aU 66 .leq 63 65],cb 66 (.exit 2)],.block 3 (ae [ab [ba 69 4 1,aa 70 5,bg 71 171 [69,70],dp 72 71],bf 72 (ae [ab [bm 2 false],.ret])]),ab [aa 67 5,aF 68 .add 67 1,aa 5 68]]
def mC:SC :=
 ae [ae [ab [aa 10 3,al 11 0 1,ak 12 11,aP 13 12,aU 14 .lss 10 13],cb 14 (.exit 0)],.block 1 (ae [.region false [⟨none,[al 17 0 1,ak 18 17,aa 19 3,aZ 20 3 18 19,ba 21 3 20,((some 4),.op (.alloc [(.val (.string ⟨#[]⟩)),(.val (.int .i64 0)),(.val (.int .i64 0))])),cL 3 4 21]⟩],ae [.region false [⟨none,[al 22 0 4,ak 23 22,bg 24 169 [23],dp 25 24,aa 26 25]⟩,⟨(some (26,false)),[ba 27 4 1,al 28 0 4,ak 29 28,bg 30 170 [27,29],aa 31 3,aU 32 .neq 30 31]⟩,⟨none,[cR 33 26 32,aa 34 33]⟩,⟨(some (34,false)),[al 35 1 4,ak 36 35,aF 37 .lss 36 0]⟩,⟨none,[cR 38 34 37,aa 39 38]⟩,⟨(some (39,false)),[al 40 1 4,ak 41 40,aF 42 .gtr 41 24]⟩,⟨none,[cR 43 39 42,aa 44 43]⟩,⟨(some (44,false)),[al 45 2 4,ak 46 45,aF 47 .lss 46 0]⟩,⟨none,[cR 48 44 47,aa 49 48]⟩,⟨(some (49,false)),[al 50 2 4,ak 51 50,aF 52 .gtr 51 3]⟩,⟨none,[cR 53 49 52,aa 54 53]⟩,⟨(some (54,false)),[al 55 1 4,ak 56 55,aF 57 .eql 56 0,al 58 2 4,ak 59 58,aF 60 .eql 59 0,((some 61),.op (.beq false (.tmp 57) (.tmp 60)))]⟩,⟨none,[cR 62 54 61]⟩],bf 62 (ae [ab [bm 2 false],.ret])],ab [aR 5 1],cd 2 mb]),ab [aa 15 3,aF 16 .add 15 1,aa 3 16]]
def nV:SF:=⟨ae [ab [cG 1 0,bm 2 false],ae [ab [al 6 0 1,ak 7 6,aP 8 7,aF 9 .gtr 8 24],bf 9 (ae [ab [bm 2 false],.ret])],ae [ab [aR 3 0],cd 0 mC],ab [bm 2 true],.ret],
 [.tmp 2],73⟩
theorem sX:aI Tryz.prog 104 [1]=some nV:=by kernel_rfl
def mP:SC :=
 ae [ae [ab [aa 14 3,al 15 1 1,ak 16 15,aP 17 16,aU 18 .lss 14 17],cb 18 (.exit 0)],.block 1 (ae [.region false [⟨none,[al 21 1 1,ak 22 21,aa 23 3,aZ 24 1 22 23,ak 25 24,bg 26 172 [25],dp 27 26,aa 28 27]⟩,⟨(some (28,false)),[ba 29 4 1,al 30 1 1,ak 31 30,aa 32 3,aZ 33 1 31 32,ak 34 33,bg 35 150 [29,34],aa 36 3,aU 37 .neq 35 36]⟩,⟨none,[cR 38 28 37,aa 39 38]⟩,⟨(some (39,false)),[ba 40 4 1,al 41 1 1,ak 42 41,aa 43 3,aZ 44 1 42 43,ak 45 44,bg 46 170 [40,45],aF 47 .geq 46 0]⟩,⟨none,[cR 48 39 47]⟩],bf 48 (ae [ab [bm 2 false],.ret])]),ab [aa 19 3,aF 20 .add 19 1,aa 3 20]]
def pX:SF:=⟨ae [ab [cG 1 0,bm 2 false],ae [.region false [⟨none,[al 4 1 1,ak 5 4,aP 6 5,aF 7 .lss 6 1,aa 8 7]⟩,⟨(some (8,false)),[al 9 1 1,ak 10 9,aP 11 10,aF 12 .gtr 11 16]⟩,⟨none,[cR 13 8 12]⟩],bf 13 (ae [ab [bm 2 false],.ret])],ae [ab [aR 3 0],cd 0 mP],ab [bm 2 true],.ret],
 [.tmp 2],49⟩
theorem tZ:aI Tryz.prog 105 [1]=some pX:=by kernel_rfl
def mW:SC :=
 ae [ae [ab [aa 23 5,al 24 1 3,ak 25 24,aP 26 25,aU 27 .lss 23 26],cb 27 (.exit 0)],.block 1 (ae [.region false [⟨none,[ba 30 4 2,al 31 1 3,ak 32 31,aa 33 5,aZ 34 1 32 33,ak 35 34,bg 36 74 [30,35],dp 37 36,aa 38 37]⟩,⟨(some (38,false)),[al 39 1 3,ak 40 39,aa 41 5,aZ 42 1 40 41,ak 43 42,aF 44 .geq 43 0,aa 45 44]⟩,⟨(some (45,true)),[al 46 2 3,ak 47 46,aF 48 .eql 47 (-1)]⟩,⟨(some (38,false)),[eA 49 45 48]⟩,⟨none,[cR 50 38 49]⟩],bf 50 (ae [ab [bm 4 false],.ret])]),ab [aa 28 5,aF 29 .add 28 1,aa 5 29]]
def pt:SF:=⟨ae [ab [cG 2 0,cG 3 1,bm 4 false],ae [.region false [⟨none,[al 6 1 3,ak 7 6,aP 8 7,aF 9 .gtr 8 6,aa 10 9]⟩,⟨(some (10,false)),[al 11 2 3,ak 12 11,aF 13 .lss 12 (-1)]⟩,⟨none,[cR 14 10 13,aa 15 14]⟩,⟨(some (15,false)),[al 16 2 3,ak 17 16,al 18 0 2,ak 19 18,aP 20 19,aU 21 .geq 17 20]⟩,⟨none,[cR 22 15 21]⟩],bf 22 (ae [ab [bm 4 false],.ret])],ae [ab [aR 5 0],cd 0 mW],ab [bm 4 true],.ret],
 [.tmp 4],51⟩
theorem tg:aI Tryz.prog 106 [2,3]=some pt:=by kernel_rfl
def mD:SC :=
 ae [ae [ab [aa 39 4,al 40 2 1,ak 41 40,aP 42 41,aU 43 .lss 39 42],cb 43 (.exit 0)],.block 1 (ae [ab [al 46 2 1,ak 47 46,aa 48 4,aZ 49 3 47 48,ba 50 3 49,((some 5),.op (.alloc [(.val (.int .i64 0)),(.emp 1),(.val (.int .i64 0))])),cL 3 5 50],ae [.region false [⟨none,[al 51 0 5,ak 52 51,aF 53 .lss 52 0,aa 54 53]⟩,⟨(some (54,false)),[al 55 0 5,ak 56 55,aa 57 3,aF 58 .add 57 1,aU 59 .gtr 56 58]⟩,⟨none,[cR 60 54 59,aa 61 60]⟩,⟨(some (61,false)),[ba 62 4 1,ba 63 3 5,bg 64 106 [62,63],dp 65 64]⟩,⟨none,[cR 66 61 65]⟩],bf 66 (ae [ab [bm 2 false],.ret])],ab [al 67 0 5,ak 68 67,aa 69 3,aU 70 .gtr 68 69],bf 70 (ab [al 71 0 5,ak 72 71,aa 3 72])]),ab [aa 44 4,aF 45 .add 44 1,aa 4 45]]
def ou:SF:=⟨ae [ab [cG 1 0,bm 2 false],ae [.region false [⟨none,[ba 6 4 1,bg 7 104 [6],dp 8 7,aa 9 8]⟩,⟨(some (9,false)),[ba 10 4 1,bg 11 105 [10],dp 12 11]⟩,⟨none,[cR 13 9 12,aa 14 13]⟩,⟨(some (14,false)),[al 15 2 1,ak 16 15,aP 17 16,aF 18 .lss 17 1]⟩,⟨none,[cR 19 14 18,aa 20 19]⟩,⟨(some (20,false)),[al 21 2 1,ak 22 21,aP 23 22,aF 24 .gtr 23 40]⟩,⟨none,[cR 25 20 24,aa 26 25]⟩,⟨(some (26,false)),[al 27 3 1,ak 28 27,aF 29 .lss 28 0]⟩,⟨none,[cR 30 26 29,aa 31 30]⟩,⟨(some (31,false)),[al 32 3 1,ak 33 32,al 34 1 1,ak 35 34,aP 36 35,aU 37 .geq 33 36]⟩,⟨none,[cR 38 31 37]⟩],bf 38 (ae [ab [bm 2 false],.ret])],ab [aR 3 (-1)],ae [ab [aR 4 0],cd 0 mD],ab [aa 73 3,al 74 1 1,ak 75 74,aP 76 75,aF 77 .sub 76 1,aU 78 .eql 73 77,aa 2 78],.ret],
 [.tmp 2],79⟩
theorem sC:aI Tryz.prog 50 [1]=some ou:=by kernel_rfl
theorem Ja (g:af) (p:g.Ok) (H:View):au Tryz.prog 104 [.agg (ag g)] H λr _=>r=gb (kN g):=by
 refine au.of mixed sX ?_
 simp(disch:=omega)only[↓wr,seval,wq,nV,ag,encS]
 apply ai.dec<;>intro h
 .simp(disch:=omega)only[↓wr,seval,wq]
  simp[kN,show ¬ g.ao.length<=24 by omega]
 .have hle:g.ao.length<=24:=by omega
  simp(disch:=omega)only[↓wr,seval,wq]
  refine aY.intro (λk T _=>∃ i:Nat,i+k=g.ao.length/\mO g (g.ao.drop i) i=mO g g.ao 0/\T 1=.aG (ag g) 0/\T 3=gi i) g.ao.length ?_ ?_
  .exact⟨0,by omega,rfl,rfl,rfl⟩
  .rintro k T H' ⟨i,hk,hi,h1,d⟩
   simp(disch:=omega)only[↓wr,seval,wq,mC,h1,d,ag]
   apply ai.dec<;>intro z
   .have f:g.ao[i]?=some (g.ao[i]'(by omega)):=Sn (by omega)
    rw[eC (show i < g.ao.length by omega)] at hi
    have b:g.ao[i]'(by omega)∈g.ao:=Sx _
    generalize g.ao[i]'(by omega)=t at f hi b
    obtain⟨⟨A,B⟩,⟨C,D⟩⟩:=p.term t b
    simp only[mO] at hi
    have a:kQ g i t=false->gb false=gb (kN g):=λe=>by rw[e,TV] at hi;simp[kN,<-hi]
    simp(disch:=omega)only[↓wr,seval,wq,h1,d,ag,de,Ss,f,SD]
    intro m hm
    try simp(disch:=omega)only[↓wr,seval,wq,h1,d]
    refine av.pure (J8 t.name) ?_
    repeat' (first | ((first|apply ai.dec|apply ai.eq|apply ai.ne|apply ai.split)<;>intro)|(simp(disch:=omega)only[↓wr,seval,wq,h1,d,ag]))
    all_goals try (refine a ?_;simp[kQ, *];done)
    rename_i s
    refine av.pure (CV g p t.name) ?_
    repeat' (first | ((first|apply ai.dec|apply ai.eq|apply ai.ne|apply ai.split)<;>intro)|(simp(disch:=omega)only[↓wr,seval,wq,h1,d,ag]))
    all_goals try (refine a ?_;simp[kQ, *];done)
    all_goals try (refine a ?_;simp[kQ];grind)
    rename_i E K L M N F
    have c:kQ g i t=rP g t:=by
     have u:((t.level == 0) == (t.assoc == 0))=true:=by simpa using F
     simp[kQ,s,E,u,show (0:Int)<=t.level by omega,show t.level<=24 by omega,show (0:Int)<=t.assoc by omega,show t.assoc<=3 by omega]
    refine aY.intro (λv T l=>∃ j:Nat,1<=j/\j+v=t.level.toNat+1/\(∀ q:Nat,q+1 < j->gG g.ao ((q:Int)+1)=true)/\T 1=.aG (ag g) 0/\T 3=gi i/\T 4=.ptr m 0 0/\l m=.arr 3 [[gs t.name,gi t.level,gi t.assoc]]/\T 5=gi j) t.level.toNat ?_ ?_
    .refine⟨1,by omega,by omega,λq w=>by omega,?_⟩
     simp(disch:=omega)only[↓wr,↓reduceIte,wq,Nat.reduceEqDiff,Nat.reduceAdd,Nat.reduceLT,Nat.reduceLeDiff,Int.reduceNeg,Int.reduceToNat,reduceCtorEq,h1,d,ag]
     rfl
    .rintro v O l ⟨j,G,I,n,f1,f3,f4,o,f5⟩
     simp(disch:=omega)only[↓wr,seval,wq,mb,f1,f3,f4,f5,o]
     apply ai.dec<;>intro J
     .simp(disch:=omega)only[↓wr,seval,wq,f1,f3,f4,f5,o,ag]
      refine av.pure (IW g p j) ?_
      repeat' (first | ((first|apply ai.dec|apply ai.eq|apply ai.ne|apply ai.split)<;>intro)|(simp(disch:=omega)only[↓wr,seval,wq,f1,f3,f4,f5,o,ag]))
      .rename_i x
       refine⟨v - 1,by omega,j+1,by omega,by omega,λq w=>?_,by first | rfl | exact⟨rfl,rfl⟩ | exact⟨rfl,rfl,rfl⟩⟩
       by_cases e:q+1=j
       .have:(q:Int)+1=j:=by omega
        rw[this];exact x
       .exact n q (by omega)
      .rename_i x
       refine a ?_
       rw[c,rP,List.all_eq_false]
       refine⟨j - 1,by simp;omega,?_⟩
       have:((j - 1:Nat):Int)+1=j:=by omega
       rw[this,x];simp
     .simp(disch:=omega)only[↓wr,seval,wq,f1,f3,f4,f5,o]
      refine⟨k - 1,by omega,i+1,by omega,?_,by first | rfl | exact⟨rfl,rfl⟩ | exact⟨rfl,rfl,rfl⟩⟩
      have y:rP g t=true:=by
       rw[rP,Tc]
       intro q w
       exact n q (by simp at w;omega)
      rw[c,y,TC] at hi
      push_cast;exact hi
   .rw[S4 (by omega)] at hi
    simp only[mO] at hi
    simp(disch:=omega)only[↓wr,seval,wq,h1,d]
    simp[kN,hle,<-hi]
theorem Kh (g:af) (a:g.Ok):ay Tryz.prog 104 [.agg (ag g)] (gb (kN g)):=ay.val (fa g) (Ja g a)
def oL (g:af) (i:Int) (s:ByteArray):Bool:=gv (fq s) && (BG g s == i) && decide (qA g s < 0)
def qC (g:af):List ByteArray->Int->Bool
 | [],_=>true
 | s :: r,i=>oL g i s && qC g r (i+1)
def lk (g:af):Bool:=decide (1<=g.aj.length) && decide (g.aj.length<=16) && qC g g.aj 0
theorem K9 (g:af) (h:g.Ok) (H:View):au Tryz.prog 105 [.agg (ag g)] H λr _=>r=gb (lk g):=by
 refine au.of mixed tZ ?_
 repeat' (first | ((first|apply ai.dec|apply ai.eq|apply ai.ne|apply ai.split)<;>intro)|(simp(disch:=omega)only[↓wr,seval,wq,pX,ag,encS]))
 .simp[lk,show ¬ 1<=g.aj.length by omega]
 .simp[lk,show ¬ g.aj.length<=16 by omega]
 .have hle:g.aj.length<=16:=by omega
  refine aY.intro (λk T _=>∃ i:Nat,i+k=g.aj.length/\qC g (g.aj.drop i) i=qC g g.aj 0/\T 1=.aG (ag g) 0/\T 3=gi i) g.aj.length ?_ ?_
  .exact⟨0,by omega,rfl,rfl,rfl⟩
  .rintro k T H' ⟨i,hk,hi,h1,c⟩
   simp(disch:=omega)only[↓wr,seval,wq,mP,h1,c,ag,encS]
   apply ai.dec<;>intro j
   .have b:g.aj[i]?=some (g.aj[i]'(by omega)):=Sn (by omega)
    rw[eC (show i < g.aj.length by omega)] at hi
    generalize g.aj[i]'(by omega)=t at b hi
    simp only[qC] at hi
    have a:oL g i t=false->gb false=gb (lk g):=λe=>by rw[e,TV] at hi;simp[lk,<-hi]
    simp(disch:=omega)only[↓wr,seval,wq,h1,c,ag,encS,Ss,b,SD]
    refine av.pure (Cm t) ?_
    repeat' (first | ((first|apply ai.dec|apply ai.eq|apply ai.ne|apply ai.split)<;>intro)|(simp(disch:=omega)only[↓wr,seval,wq,h1,c,ag,encS,Ss,b,SD]))
    all_goals try (refine a ?_;simp[oL, *];done)
    rename_i d
    refine av.pure (OL g h t) ?_
    repeat' (first | ((first|apply ai.dec|apply ai.eq|apply ai.ne|apply ai.split)<;>intro)|(simp(disch:=omega)only[↓wr,seval,wq,h1,c,ag,encS,Ss,b,SD]))
    all_goals try (refine a ?_;simp[oL, *];done)
    rename_i f
    refine av.pure (CV g h t) ?_
    repeat' (first | ((first|apply ai.dec|apply ai.eq|apply ai.ne|apply ai.split)<;>intro)|(simp(disch:=omega)only[↓wr,seval,wq,h1,c,ag,encS]))
    all_goals try (refine a ?_;simp[oL, *];done)
    rename_i l
    refine⟨k - 1,by omega,i+1,by omega,?_,by first | rfl | exact⟨rfl,rfl⟩ | exact⟨rfl,rfl,rfl⟩⟩
    have:oL g i t=true:=by simp[oL,d,f,show qA g t < 0 by omega]
    rw[this,TC] at hi
    push_cast;exact hi
   .rw[S4 (by omega)] at hi
    simp only[qC] at hi
    simp(disch:=omega)only[↓wr,seval,wq,h1,c]
    simp[lk,hle,show 1<=g.aj.length by omega,<-hi]
theorem M0 (g:af) (a:g.Ok):ay Tryz.prog 105 [.agg (ag g)] (gb (lk g)):=ay.val (fa g) (K9 g a)
def oF (g:af) (prec s:Int):Bool:=eo g s && !(decide (0<=s) && prec == -1)
def iS (g:af) (r:bk):Bool:=decide (r.right.length<=6) && decide (-1<=r.prec) && decide (r.prec < g.ao.length) && r.right.all (oF g r.prec)
theorem FY (g:af) (r:bk):∀ v∈[V.agg (ag g),V.agg (aQ r)],Tree v:=by
 intro v a;simp at a
 rcases a with rfl | rfl
 .exact cn _ (cM g)
 .exact cn _ (gV r)
theorem Nc (g:af) (r:bk) (hr:aK r.right/\∀ x∈r.right,bK x) (H:View):au Tryz.prog 106 [.agg (ag g),.agg (aQ r)] H λv _=>v=gb (iS g r):=by
 refine au.of mixed tg ?_
 repeat' (first | ((first|apply ai.dec|apply ai.eq|apply ai.ne|apply ai.split)<;>intro)|(simp(disch:=omega)only[↓wr,seval,wq,pt,ag,encS,aQ,encI]))
 .simp[iS,show ¬ r.right.length<=6 by omega]
 .simp[iS,show ¬ -1<=r.prec by omega]
 .simp[iS,show ¬ r.prec < g.ao.length by omega]
 .have hle:r.right.length<=6:=by omega
  have j : -1<=r.prec:=by omega
  have l:r.prec < g.ao.length:=by omega
  refine aY.intro (λk T _=>∃ i:Nat,i+k=r.right.length/\(r.right.drop i).all (oF g r.prec)=r.right.all (oF g r.prec)/\T 2=.aG (ag g) 0/\T 3=.aG (aQ r) 0/\T 5=gi i) r.right.length ?_ ?_
  .exact⟨0,by omega,rfl,rfl,rfl,rfl⟩
  .rintro k T H' ⟨i,hk,hi,d,f,h⟩
   simp(disch:=omega)only[↓wr,seval,wq,mW,d,f,h,aQ,encI]
   apply ai.dec<;>intro o
   .have b:r.right[i]?=some (r.right[i]'(by omega)):=Sn (by omega)
    rw[eC (show i < r.right.length by omega)] at hi
    have a:r.right[i]'(by omega)∈r.right:=Sx _
    generalize r.right[i]'(by omega)=t at b hi a
    have m:=hr.2 t a
    simp only[TU] at hi
    have c:oF g r.prec t=false->gb false=gb (iS g r):=λe=>by rw[e,TV] at hi;simp only[iS,<-hi,Bool.and_false]
    have n:oF g r.prec t=true->(r.right.drop (i+1)).all (oF g r.prec)=r.right.all (oF g r.prec):=λe=>by rw[e,TC] at hi;exact hi
    simp(disch:=omega)only[↓wr,seval,wq,d,f,h,ag,encS,aQ,encI,Ss,b,SD]
    refine av.pure (QB g t m) ?_
    repeat' (first | ((first|apply ai.dec|apply ai.eq|apply ai.ne|apply ai.split)<;>intro)|(simp(disch:=omega)only[↓wr,seval,wq,d,f,h,ag,encS,aQ,encI,Ss,b,SD]))
    all_goals first
     | (refine c ?_;simp[oF, *];done)
     | (refine⟨k - 1,by omega,i+1,by omega,n (by simp[oF, *];done),by first | rfl | exact⟨rfl,rfl⟩ | exact⟨rfl,rfl,rfl⟩⟩)
     | skip
   .rw[S4 (by omega)] at hi
    simp only[List.all_nil] at hi
    simp(disch:=omega)only[↓wr,seval,wq,d,f,h]
    simp only[iS,hle,j,l,decide_true,TC,<-hi]
theorem MG (g:af) (r:bk) (hr:aK r.right/\∀ x∈r.right,bK x):ay Tryz.prog 106 [.agg (ag g),.agg (aQ r)] (gb (iS g r)):=ay.val (FY g r) (Nc g r hr)
def iY (g:af):List bk->Int->Bool
 | [],top=>top == (g.aj.length:Int) - 1
 | r :: l,top=>decide (0<=r.left) && decide (r.left<=top+1) && iS g r && iY g l (if r.left > top then r.left else top)
def ca (g:af):Bool :=
 kN g && lk g && decide (1<=g.rules.length) && decide (g.rules.length<=40) && decide (0<=g.start) && decide (g.start < g.aj.length) && iY g g.rules (-1)
theorem J9 (g:af) (h:g.Ok) (H:View):au Tryz.prog 50 [.agg (ag g)] H λr _=>r=gb (ca g):=by
 refine au.of mixed sC ?_
 have o:=h.aj
 unfold aK at o
 simp(disch:=omega)only[↓wr,seval,wq,ou,ag,encS]
 refine av.pure (Kh g h) ?_
 repeat' (first | ((first|apply ai.dec|apply ai.eq|apply ai.ne|apply ai.split)<;>intro)|(simp(disch:=omega)only[↓wr,seval,wq,ag,encS]))
 .rename_i h1
  refine av.pure (M0 g h) ?_
  repeat' (first | ((first|apply ai.dec|apply ai.eq|apply ai.ne|apply ai.split)<;>intro)|(simp(disch:=omega)only[↓wr,seval,wq,ag,encS]))
  all_goals try (simp[ca, *];done)
  all_goals try (simp[ca];omega)
  rename_i p y z A B
  have hle:g.rules.length<=40:=by omega
  have a:∀ b,iY g g.rules (-1)=b->gb b=gb (ca g):=λb e=>by
   simp[ca,h1,p,show 1<=g.rules.length by omega,hle,show 0<=g.start by omega,show g.start < g.aj.length by omega,e]
  refine aY.intro (λk T _=>∃ (i:Nat) (w:Int),i+k=g.rules.length/\-1<=w/\w < i/\iY g (g.rules.drop i) w=iY g g.rules (-1)/\T 1=.aG (ag g) 0/\T 3=gi w/\T 4=gi i) g.rules.length ?_ ?_
  .exact⟨0,-1,by omega,by omega,by omega,rfl,rfl,rfl,rfl⟩
  .rintro k T H' ⟨i,w,hk,q,s,hi,f1,f3,f4⟩
   simp(disch:=omega)only[↓wr,seval,wq,mD,f1,f3,f4,ag]
   apply ai.dec<;>intro u
   .have d:g.rules[i]?=some (g.rules[i]'(by omega)):=Sn (by omega)
    rw[eC (show i < g.rules.length by omega)] at hi
    have c:g.rules[i]'(by omega)∈g.rules:=Sx _
    generalize g.rules[i]'(by omega)=t at d hi c
    obtain⟨⟨v,x⟩,hp,j,l⟩:=h.aw t c
    simp only[iY] at hi
    simp(disch:=omega)only[↓wr,seval,wq,f1,f3,f4,ag,encS,aQ,encI,Ss,d,SD]
    intro m hm
    try simp(disch:=omega)only[↓wr,seval,wq,f1,f3,f4]
    repeat' (first | ((first|apply ai.dec|apply ai.eq|apply ai.ne|apply ai.split)<;>intro)|(simp(disch:=omega)only[↓wr,seval,wq,f1,f3,f4,ag,encS,aQ,encI]))
    all_goals try (refine a _ ?_;simp only[<-hi];simp;omega)
    rename_i C D
    refine av.pure (MG g t ⟨j,l⟩) ?_
    repeat' (first | ((first|apply ai.dec|apply ai.eq|apply ai.ne|apply ai.split)<;>intro)|(simp(disch:=omega)only[↓wr,seval,wq,f1,f3,f4,ag,encS,aQ,encI]))
    all_goals simp only[show 0<=t.left by omega,show t.left<=w+1 by omega,decide_true,TC] at hi
    .rename_i f n
     rw[f,TC,St n] at hi
     exact⟨k - 1,by omega,i+1,_,by omega,by omega,by push_cast;omega,hi,by first | rfl | exact⟨rfl,rfl⟩ | exact⟨rfl,rfl,rfl⟩⟩
    .rename_i f n
     rw[f,TC,Sr n] at hi
     exact⟨k - 1,by omega,i+1,_,by omega,by omega,by push_cast;omega,hi,by first | rfl | exact⟨rfl,rfl⟩ | exact⟨rfl,rfl,rfl⟩⟩
    .rename_i f
     rw[f,TV] at hi
     exact a _ hi.symm
   .rw[S4 (by omega)] at hi
    simp only[iY] at hi
    simp(disch:=omega)only[↓wr,seval,wq,f1,f3,f4,ag,encS]
    exact a _ hi.symm
 .rename_i h1;simp[ca,h1]
theorem qw (g:af) (a:g.Ok):ay Tryz.prog 50 [.agg (ag g)] (gb (ca g)):=ay.val (fa g) (J9 g a)
inductive cr (α:Type) where
 | nil
 | node (v:α) (l r:cr α)
noncomputable def cr.get {α:Type} (z:α) (t:cr α):Nat->α :=
 cr.rec (motive:=λ_=>Nat->α) (λ_=>z) (λv _ _ gl gr i=>Bool.rec (Bool.rec (gr (i / 2 - 1)) (gl (i / 2)) (Nat.beq (i % 2) 1)) v (Nat.beq i 0)) t
theorem cr.get_nil {α:Type} (z:α) (i:Nat):cr.get z .nil i=z:=rfl
theorem cr.OC {α:Type} (z v:α) (l r:cr α) (i:Nat):cr.get z (.node v l r) i=match Nat.beq i 0 with
  | true=>v
  | false=>match Nat.beq (i % 2) 1 with
   | true=>cr.get z l (i / 2)
   | false=>cr.get z r (i / 2 - 1):=by
 change (Bool.rec (motive:=λ_=>α) _ _ _:α)=_
 cases Nat.beq i 0 with
 | true=>rfl
 | false=>cases Nat.beq (i % 2) 1 <;> rfl
def cr.val {α:Type} (z:α):cr α->α
 | .nil=>z
 | .node v _ _=>v
def cr.left {α:Type} : cr α->cr α
 | .nil=>.nil
 | .node _ l _=>l
def cr.right {α:Type} : cr α->cr α
 | .nil=>.nil
 | .node _ _ r=>r
noncomputable def cr.put {α:Type} (z:α) (x:α) (d:Nat):cr α->Nat->cr α :=
 Nat.rec (motive:=λ_=>cr α->Nat->cr α) (λt _=>t) (λ_ pd t i =>
  Bool.rec (Bool.rec (.node (t.val z) t.left (pd t.right (i / 2 - 1))) (.node (t.val z) (pd t.left (i / 2)) t.right) (Nat.beq (i % 2) 1)) (.node x t.left t.right) (Nat.beq i 0)) d
theorem cr.Oe {α:Type} (z x:α) (d:Nat) (t:cr α) (i:Nat):cr.put z x (d+1) t i=match Nat.beq i 0 with
  | true=>.node x t.left t.right
  | false=>match Nat.beq (i % 2) 1 with
   | true=>.node (t.val z) (cr.put z x d t.left (i / 2)) t.right
   | false=>.node (t.val z) t.left (cr.put z x d t.right (i / 2 - 1)):=by
 change (Bool.rec (motive:=λ_=>cr α) _ _ _:cr α)=_
 cases Nat.beq i 0 with
 | true=>rfl
 | false=>cases Nat.beq (i % 2) 1 <;> rfl
theorem cr.mA {α:Type} (z:α) (t:cr α) (j:Nat):t.get z j=if j=0 then t.val z else if j % 2=1 then t.left.get z (j / 2) else t.right.get z (j / 2 - 1):=by
 cases t with
 | nil=>simp[cr.get_nil,cr.val,cr.left,cr.right]
 | node v l r =>
  simp only[cr.OC,cr.val,cr.left,cr.right]
  by_cases h:j=0
  .subst h;rfl
  .have:Nat.beq j 0=false:=by cases e:Nat.beq j 0 with | true=>exact absurd (Un e) h | false=>rfl
   rw[this,Sr h]
   simp only
   by_cases a:j % 2=1
   .have:Nat.beq (j % 2) 1=true:=by rw[a];rfl
    rw[this,St a]
   .have:Nat.beq (j % 2) 1=false:=by cases e:Nat.beq (j % 2) 1 with | true=>exact absurd (Un e) a | false=>rfl
    rw[this,Sr a]
theorem cr.mH {α:Type} (z x:α):∀ (d:Nat) (t:cr α) (i j:Nat),i+1 < 2 ^ d->(cr.put z x d t i).get z j=if j=i then x else t.get z j
 | 0,t,i,j,h=>by simp at h
 | d+1,t,i,j,h=>by
  rw[Nat.pow_succ] at h
  simp only[cr.Oe]
  by_cases hi:i=0
  .subst hi
   have:Nat.beq 0 0=true:=rfl
   rw[this]
   simp only
   rw[cr.mA,cr.mA z t]
   simp only[cr.val,cr.left,cr.right]
   by_cases b:j=0
   .rw[St b,St b]
   .rw[Sr b,Sr b,Sr b]
  .have:Nat.beq i 0=false:=by cases e:Nat.beq i 0 with | true=>exact absurd (Un e) hi | false=>rfl
   rw[this]
   simp only
   by_cases c:i % 2=1
   .have:Nat.beq (i % 2) 1=true:=by rw[c];rfl
    rw[this]
    simp only
    rw[cr.mA,cr.mA z t]
    simp only[cr.val,cr.left,cr.right]
    by_cases b:j=0
    .subst b;rw[St rfl,Sr (λe=>hi e.symm),St rfl]
    .rw[Sr b,Sr b]
     by_cases a:j % 2=1
     .rw[St a,St a,cr.mH z x d _ _ _ (by omega)]
      by_cases e:j=i
      .subst e;simp
      .rw[Sr e,Sr (by omega)]
     .rw[Sr a,Sr a,Sr (λe=>a (by rw[e];exact c))]
   .have:Nat.beq (i % 2) 1=false:=by cases e:Nat.beq (i % 2) 1 with | true=>exact absurd (Un e) c | false=>rfl
    rw[this]
    simp only
    rw[cr.mA,cr.mA z t]
    simp only[cr.val,cr.left,cr.right]
    by_cases b:j=0
    .subst b;rw[St rfl,Sr (λe=>hi e.symm),St rfl]
    .rw[Sr b,Sr b]
     by_cases a:j % 2=1
     .rw[St a,St a,Sr (λe=>c (by rw[<-e];exact a))]
     .rw[Sr a,Sr a,cr.mH z x d _ _ _ (by omega)]
      by_cases e:j=i
      .subst e;simp
      .rw[Sr e,Sr (by omega)]
abbrev deep:Nat:=13
structure ES where
 L:cr V
 H:cr dF
 n:Nat
 w:List Nat
noncomputable def ES.T (s:ES):Env:=s.L.get .any
noncomputable def ES.V (s:ES):View:=s.H.get .dead
noncomputable def ES.put (s:ES) (d:Option Nat) (v:Gv.V):ES:=match d with
 | some t=>⟨s.L.put .any v deep t,s.H,s.n,s.w⟩
 | none=>s
theorem ES.Pa {s:ES} {d:Option Nat} {v:Gv.V} (h:∀ t,d=some t->t < 8000):(s.put d v).T=s.T.put d v:=by
 cases d with
 | none=>rfl
 | some t =>
  funext k
  have:=h t rfl
  simp only[ES.put,ES.T,Env.put]
  rw[cr.mH _ _ _ _ _ _ (by simp[deep];omega)]
noncomputable def E1 (v:V) (eff:bh) (rd:List Nat) (s:ES):Option (V × ES × Rec):=match eff with
 | .none=>some (v,s,⟨rd,[],false,s.n,s.n⟩)
 | .new o=>match Nat.ble s.n 8000 with
  | true=>some (v,⟨s.L,s.H.put .dead o deep s.n,s.n+1,s.w⟩,⟨rd,[],false,s.n,s.n+1⟩)
  | false=>none
 | .eS id o=>match Nat.ble id 8000 with
  | true=>some (v,⟨s.L,s.H.put .dead o deep id,s.n,id :: s.w⟩,⟨rd,[id],false,s.n,s.n⟩)
  | false=>none
 | .eJ id o=>match Nat.ble s.n 8000,Nat.ble id 8000 with
  | true,true=>some (v,⟨s.L,(s.H.put .dead .dead deep id).put .dead o deep s.n,s.n+1,id :: s.w⟩,⟨rd,[id],false,s.n,s.n+1⟩)
  | _,_=>none
noncomputable def RW (x:SX) (_:Program) (T:Env) (_:View) (_:Nat):Out:=some (x.at T,.none,[])
noncomputable def QT (c a b:SX) (_:Program) (T:Env) (_:View) (_:Nat):Out:=match c.at T with
 | .val (.bool t)=>some (if t then a.at T else b.at T,.none,[])
 | _=>none
noncomputable def Rf (sz:Option Nat) (a:SX) (_:Program) (T:Env) (H:View) (_:Nat):Out:=ui sz (a.at T) H
noncomputable def QL (sz:Nat) (a x:SX) (_:Program) (T:Env) (H:View) (_:Nat):Out:=zT sz (a.at T) (x.at T) H
noncomputable def Q5 (off:Nat) (x:SX) (_:Program) (T:Env) (_:View) (_:Nat):Out:=xW off (x.at T)
noncomputable def RH (sz:Nat) (x i:SX) (_:Program) (T:Env) (_:View) (_:Nat):Out:=B2 sz (x.at T) (i.at T)
noncomputable def RU (x:SX) (_:Program) (T:Env) (_:View) (_:Nat):Out:=(bZ (x.at T)).map λn=>(fA n,.none,[])
noncomputable def Qo (op:BinOp) (x y:SX) (_:Program) (T:Env) (_:View) (_:Nat):Out:=xi op (x.at T) (y.at T)
noncomputable def Ro (op:BinOp) (x y:SX) (_:Program) (T:Env) (_:View) (_:Nat):Out:=zl op (x.at T) (y.at T)
noncomputable def R1 (x:SX) (_:Program) (T:Env) (_:View) (_:Nat):Out:=match x.at T with
 | .val (.bool t)=>some (.val (.bool (!t)),.none,[])
 | _=>none
noncomputable def RR (i:Nat) (x:SX) (_:Program) (T:Env) (_:View) (_:Nat):Out:=match x.at T with
 | .aS vs=>if i < vs.length then some (vs.getD i .any,.none,[]) else none
 | _=>none
noncomputable def Q7 (x:SX) (_:Program) (T:Env) (_:View) (_:Nat):Out:=match x.at T with
 | .ptr id i j=>some (.ptr id i j,.none,[])
 | .aG e j=>some (.aG e j,.none,[])
 | .fn f a b=>some (.fn f a b,.none,[])
 | _=>none
noncomputable def eI (s:SI):Program->Env->View->Nat->Out:=match s with
 | .eJ x=>RW x
 | .pick c a b=>QT c a b
 | .load sz a=>Rf sz a
 | .store sz a x=>QL sz a x
 | .addr o x=>Q5 o x
 | .idx sz x i=>RH sz x i
 | .len x=>RU x
 | .arith op x y=>Qo op x y
 | .vr op x y=>Ro op x y
 | .not x=>R1 x
 | .ext i x=>RR i x
 | .y9 x=>Q7 x
 | s=>λP T H n=>sI P s T H n
theorem Jh (s:SI) (P:Program) (T:Env) (H:View) (n:Nat):eI s P T H n=sI P s T H n:=by
 cases s <;> rfl
abbrev hX:=FuncId->List V->ES->Option (V × ES)
noncomputable def Lr (P:Program) (s:SI) (e:ES):Option (V × ES × Rec):=match eI s P e.T e.V e.n with
 | some (v,eff,rd)=>E1 v eff rd e
 | none=>none
noncomputable def L9 (call:hX) (f:SX) (args:List SX) (e:ES):Option (V × ES × Rec):=match f.at e.T with
 | .fn g first cap=>match call g (first ++ args.map (SX.at e.T) ++ cap) e with
  | some (v,e')=>some (v,⟨e.L,e'.H,e'.n,e'.w ++ e.w⟩,⟨[],e'.w,true,e.n,e'.n⟩)
  | none=>none
 | _=>none
noncomputable def eB (P:Program) (call:hX) (b:SB):ES->Option (V × ES × Rec):=match b with
 | .op s=>Lr P s
 | .call f args=>L9 call f args
 | .nM ..=>λ_=>none
noncomputable def HU (P:Program) (call:hX):List (Option Nat × SB)->List Rec->ES->Option (ES × List Rec)
 | [],a,e=>some (e,a)
 | (d,b) :: r,a,e=>match eB P call b e with
  | some (v,e',c)=>HU P call r (a ++ [c]) (e'.put d v)
  | none=>none
noncomputable def OZ (e:ES):Rec:=⟨[],[],false,e.n,e.n⟩
noncomputable def ug:List (Option Nat × SB)->List Rec->ES->ES × List Rec
 | [],a,e=>(e,a)
 | (d,_) :: r,a,e=>ug r (a ++ [OZ e]) (e.put d (.aS []))
noncomputable def KR (P:Program) (call:hX) (ops:List (Option Nat × SB)) (want:Bool) (v:V) (a:List Rec) (e:ES):Option (ES × List Rec):=match v with
 | .val (.bool b)=>match xor b want with
  | true=>some (ug ops a e)
  | false=>HU P call ops a e
 | .aS []=>some (ug ops a e)
 | _=>none
noncomputable def eG (P:Program) (call:hX) (g:SG) (a:List Rec) (e:ES):Option (ES × List Rec):=match g.guard with
 | none=>HU P call g.ops a e
 | some (d,want)=>KR P call g.ops want (e.T d) a e
noncomputable def LB (P:Program) (call:hX):List SG->List Rec->ES->Option (ES × List Rec)
 | [],a,e=>some (e,a)
 | g :: r,a,e=>match eG P call g a e with
  | some (e',a')=>LB P call r a' e'
  | none=>none
inductive DC where
 | skip
 | region (ps:List (Nat × Nat)) (gs:List SG)
 | seq (x y:DC)
 | cond (c:SX) (x y:DC)
 | block (id:Nat) (c:DC)
 | loop (c:DC)
 | exit (id:Nat)
 | ret
 deriving Inhabited
def LI (recs:List Rec) (ps:List (Nat × Nat)):Bool:=ps.all λ(i,k)=>match recs[i]?,recs[k]? with
 | some a,some b=>Bl a b
 | _,_=>false
abbrev ER:=Option (Exit × ES)
abbrev vN:=DC->ES->ER
noncomputable def Kx:ES->ER:=λe=>some (.normal,e)
noncomputable def GS (P:Program) (call:hX) (ps:List (Nat × Nat)) (gs:List SG) (e:ES):ER:=match LB P call gs [] e with
 | some (e',recs)=>match LI recs ps with
  | true=>some (.normal,e')
  | false=>none
 | none=>none
noncomputable def P2 (run:vN) (x y:DC) (e:ES):ER:=match run x e with
 | some (.normal,e')=>run y e'
 | r=>r
noncomputable def O1 (run:vN) (c:SX) (x y:DC) (e:ES):ER:=match c.at e.T with
 | .val (.bool true)=>run x e
 | .val (.bool false)=>run y e
 | _=>none
noncomputable def Ma (run:vN) (id:Nat) (c:DC) (e:ES):ER:=match run c e with
 | some (r,e')=>some (oW id r,e')
 | none=>none
noncomputable def O0 (run:vN) (c:DC) (e:ES):ER:=match run c e with
 | some (.normal,e')=>run (.loop c) e'
 | r=>r
noncomputable def lL (P:Program) (call:hX) (run:vN) (c:DC):ES->ER:=match c with
 | .skip=>Kx
 | .region ps gs=>GS P call ps gs
 | .seq x y=>P2 run x y
 | .cond c x y=>O1 run c x y
 | .block id c=>Ma run id c
 | .loop c=>O0 run c
 | .exit id=>λe=>some (.exit id,e)
 | .ret=>λe=>some (.ret,e)
noncomputable def Ow (r:SR) (e:ES):Option V:=match r with
 | .tmp t=>some (e.T t)
 | .cell t sz=>match e.T t with
  | .ptr id i j=>match e.V id with
   | .arr _ es=>if i < es.length then lC sz (es.getD i []) j else none
   | _=>none
  | .aG e j=>lC sz e j
  | _=>none
noncomputable def uN:List SR->ES->Option (List V)
 | [],_=>some []
 | r :: l,e=>match Ow r e,uN l e with
  | some v,some vs=>some (v :: vs)
  | _,_=>none
noncomputable def me:List V->Nat->cr V->cr V
 | [],_,t=>t
 | v :: vs,i,t=>me vs (i+1) (t.put .any v deep i)
structure DF where
 code:DC
 res:List SR
 n:Nat
noncomputable def P3 (l:List SR) (r:ER):Option (V × ES):=match r with
 | some (.ret,e)=>(uN l e).map λvs=>(uK vs,e)
 | some (.normal,e)=>(uN l e).map λvs=>(uK vs,e)
 | _=>none
noncomputable def Qj (m:Nat) (r:Option (V × ES)):Option (V × ES):=match r with
 | some (v,e)=>some (v,⟨e.L,e.H,e.n,e.w.filter λid=>Nat.blt id m⟩)
 | none=>none
noncomputable def QC (run:vN) (F:DF) (vs:List V) (e:ES):Option (V × ES):=match Nat.ble vs.length F.n,Nat.ble F.n 8000 with
 | true,true=>Qj e.n (P3 F.res (run F.code ⟨me vs 0 .nil,e.H,e.n,[]⟩))
 | _,_=>none
abbrev wE:=FuncId->List V->View->Option V
noncomputable def DJ (P:Program) (tab:List (FuncId × DF)) (ext:wE) (run:vN) (g:FuncId) (vs:List V) (e:ES):Option (V × ES):=match ext g vs e.V with
 | some t=>some (t,⟨e.L,e.H,e.n,[]⟩)
 | none=>match tab.find? (λp=>Nat.beq p.1 g) with
  | some (_,F)=>QC run F vs e
  | none=>none
noncomputable def Ex (P:Program) (tab:List (FuncId × DF)) (ext:wE):Nat->vN
 | 0=>λ_ _=>none
 | k+1=>lL P (DJ P tab ext (Ex P tab ext k)) (Ex P tab ext k)
def zG (all:List Oper) (ls:List Nat):List (Nat × Nat) :=
 let b:=fo all []
 (ls.zipIdx.map λ(x,i)=>(ls.zipIdx.filter λ(y,k)=>decide (i < k) && !(ordered b i k || x == 0 || y == 0 || (decide (x<=1) && decide (y<=1)))).map λ(_,k)=>(i,k)).flatten
def Ef (P:Program) (n:Nat) (fz:List Nat) (ops:List Oper) (draw:Bool):Option DC:=match dB P n ops ⟨fz,false⟩ ops with
 | none=>none
 | some l=>if !(group l).all r5 then none else
  if draw then (if k8 ops then some (.region (zG ops (l.map λs=>iq P false s.b)) (group l)) else none) else some (.region [] (group l))
def iR (P:Program) (n:Nat) (fz:List Nat):Code->Option DC
 | .skip=>some .skip
 | .region _ ops draw=>Ef P n fz ops.toList draw
 | .seq x y=>match iR P n fz x,iR P n fz y with
  | some a,some b=>some (.seq a b)
  | _,_=>none
 | .cond c x y=>match iR P n fz x,iR P n fz y with
  | some a,some b=>some (.cond (SX.of c) a b)
  | _,_=>none
 | .block id c=>(iR P n fz c).map (.block id)
 | .loop c=>(iR P n fz c).map .loop
 | .exit id=>some (.exit id)
 | .ret=>some .ret
 | _=>none
abbrev Sl (l:List (Option Nat × SB)):DC:=.region [] [⟨none,l⟩]
def F1 (P:Program) (f:FuncId) (fz:List Nat):Option DF:=match P.funcs[f]? with
 | some fn=>match fn.body with
  | some c=>match iR P fn.ntmps fz c,fu P fn.results.toList,dw P f with
   | some sc,some rs,true=>some ⟨sc,rs,fn.ntmps⟩
   | _,_,_=>none
  | none=>none
 | none=>none
end Gv

/-
  Part 6 of the proof: what the machine does and what the functions answer.
  Conditions: those that each lemma names.
-/
import Derived.Test.YtiophifnkakjgaaGreatSGzC1E
set_option linter.unusedSimpArgs false
set_option linter.unusedVariables false
set_option maxRecDepth 100000
set_option maxHeartbeats 20000000
namespace Gv
open Go Go.Proofs
structure Term where
 name:ByteArray
 level:Int
 assoc:Int
structure aX where
 left:Int
 right:List Int
 prec:Int
structure af where
 ai:List Term
 al:List ByteArray
 rules:List aX
 start:Int
instance:Inhabited Term:=⟨⟨.empty,0,0⟩⟩
instance:Inhabited aX:=⟨⟨0,[],0⟩⟩
def dg (t:Term):List V:=[gs t.name,gi t.level,gi t.assoc]
def bg (r:aX):List V:=[gi r.left,encI r.right,gi r.prec]
def encS (l:List ByteArray):V:=.aU (l.map λs=>[gs s])
def ag (g:af):List V:=[.aU (g.ai.map dg),encS g.al,.aU (g.rules.map bg),gi g.start]
theorem ew {α:Type} (l:List α) (f:α->List V) (h:∀ x∈l,∀ v∈f x,Tree v):Tree (.aU (l.map f)):=by
 refine .aU _ λi j hi a=>?_
 simp only[aaJ] at hi
 have e:(l.map f).getD i []=f l[i]:=by simp[aaA,hi]
 rw[e] at a ⊢
 have b:(f l[i]).getD j .any=(f l[i])[j]:=by simp[aaA,a]
 rw[b]
 exact h _ (aaL _) _ (aaL _)
theorem bL (cs:List V) (h:∀ v∈cs,Tree v):Tree (.agg cs):=by
 refine .agg _ λi hi=>?_
 have a:cs.getD i .any=cs[i]:=by simp[aaA,hi]
 rw[a];exact h _ (aaL _)
theorem BC (l:List ByteArray):Tree (encS l):=ew _ _ λx _ v a=>by simp at a;subst a;exact .val _
theorem vK (t:Term):∀ v∈dg t,Tree v:=by intro v a;simp[dg] at a;rcases a with rfl | rfl | rfl <;> exact .val _
theorem ja (r:aX):∀ v∈bg r,Tree v:=by
 intro v a;simp[bg] at a;rcases a with rfl | rfl | rfl
 .exact .val _
 .exact cx _
 .exact .val _
theorem cd (g:af):∀ v∈ag g,Tree v:=by
 intro v a;simp[ag] at a;rcases a with rfl | rfl | rfl | rfl
 .exact ew _ _ λx _=>vK x
 .exact BC _
 .exact ew _ _ λx _=>ja x
 .exact .val _
def bM (x:Int):Prop:=-9223372036854775808<=x/\x<=9223372036854775807
structure af.Ok (g:af):Prop where
 ai:aK g.ai
 al:aK g.al
 rules:aK g.rules
 start:bM g.start
 term:∀ t∈g.ai,bM t.level/\bM t.assoc
 au:∀ r∈g.rules,bM r.left/\bM r.prec/\aK r.right/\∀ x∈r.right,bM x
def dL (g:af) (s:Int):Bool:=if 0<=s then decide (s < g.ai.length) else decide (-1 - s < g.al.length)
def tJ:SF:=⟨ae [ab [cF 2 0,bB 4 false],ae [ab [aa 5 1,aF 6 .geq 5 0],bb 6 (ae [ab [aa 7 1,ao 8 0 2,ak 9 8,aN 10 9,aQ 11 .lss 7 10,aa 4 11],.ret])],ab [aa 12 1,((some 13),.op (.arith .sub (.val (.val (.int .i64 (-1)))) (.tmp 12))),ao 14 1 2,ak 15 14,aN 16 15,aQ 17 .lss 13 16,aa 4 17],.ret],
 [.tmp 4],18⟩
theorem zk:aP Tryz.prog 74 [2]=some tJ:=by kernel_rfl
theorem YL (g:af) (s:Int) (a:bM s) (H:View):aw Tryz.prog 74 [.agg (ag g),gi s] H λr H'=>r=gb (dL g s)/\H'=H:=by
 refine aw.of mixed zk ?_
 obtain⟨h1,b⟩:=a
 simp(disch:=omega)only[↓wr,seval,wq,tJ,ag,encS]
 apply aj.dec<;>intro h
 .simp(disch:=omega)only[↓wr,seval,wq]
  simp[dL,show (0:Int)<=s from h]
 .simp(disch:=omega)only[↓wr,seval,wq]
  simp[dL,show ¬ (0:Int)<=s from h]
theorem RY (g:af) (s:Int) (b:bM s):az Tryz.prog 74 [.agg (ag g),gi s] (gb (dL g s)) :=
 az.of (by
  intro v a;simp at a
  rcases a with rfl | rfl
  .exact bL _ (cd g)
  .exact .val _) ((YL g s b _).mono λr H' h c _=>by rw[h.1];exact .tree _ (.val _))
def qC (g:af):Bool:=decide (40 < g.ai.length) || decide (40 < g.al.length) || decide (60 < g.rules.length) || g.rules.any λr=>decide (20 < r.right.length)
def pf:SC :=
 ae [ae [ab [aa 20 3,ao 21 2 1,ak 22 21,aN 23 22,aQ 24 .lss 20 23],bX 24 (.exit 0)],.block 1 (ae [ab [ao 27 2 1,ak 28 27,aa 29 3,aO 30 3 28 29,ao 31 1 30,ak 32 31,aN 33 32,aF 34 .gtr 33 20],bb 34 (ae [ab [bB 2 true],.ret])]),ab [aa 25 3,aF 26 .add 25 1,aa 3 26]]
def qT:SF:=⟨ae [ab [cF 1 0,bB 2 false],ae [.region false [⟨none,[ao 4 0 1,ak 5 4,aN 6 5,aF 7 .gtr 6 40,aa 8 7]⟩,⟨(some (8,false)),[ao 9 1 1,ak 10 9,aN 11 10,aF 12 .gtr 11 40]⟩,⟨none,[cy 13 8 12,aa 14 13]⟩,⟨(some (14,false)),[ao 15 2 1,ak 16 15,aN 17 16,aF 18 .gtr 17 60]⟩,⟨none,[cy 19 14 18]⟩],bb 19 (ae [ab [bB 2 true],.ret])],ae [ab [aR 3 0],bZ 0 pf],ab [bB 2 false],.ret],
 [.tmp 2],35⟩
theorem xu:aP Tryz.prog 14 [1]=some qT:=by kernel_rfl
theorem UB (g:af) (H:View):aw Tryz.prog 14 [.agg (ag g)] H λr H'=>r=gb (qC g)/\H'=H:=by
 refine aw.of mixed xu ?_
 simp(disch:=omega)only[↓wr,seval,wq,qT,ag,encS]
 apply aj.dec<;>intro h1
 .simp(disch:=omega)only[↓wr,seval,wq]
  simp[qC,show 40 < g.ai.length by omega]
 .simp(disch:=omega)only[↓wr,seval,wq]
  apply aj.dec<;>intro d
  .simp(disch:=omega)only[↓wr,seval,wq]
   simp[qC,show 40 < g.al.length by omega]
  .simp(disch:=omega)only[↓wr,seval,wq]
   apply aj.dec<;>intro f
   .simp(disch:=omega)only[↓wr,seval,wq]
    simp[qC,show 60 < g.rules.length by omega]
   .simp(disch:=omega)only[↓wr,seval,wq]
    refine ba.intro (λk T H'=>∃ i:Nat,i+k=g.rules.length/\(∀ r∈g.rules.take i,¬ 20 < r.right.length)/\T 1=.aL (ag g) 0/\T 3=gi i/\H'=H) g.rules.length ?_ ?_
    .exact⟨0,by omega,by simp,rfl,rfl,rfl⟩
    .rintro k T H' ⟨i,hk,hi,a,b,rfl⟩
     simp(disch:=omega)only[↓wr,seval,wq,pf,a,b,ag]
     apply aj.dec<;>intro h
     .have c:g.rules[i]?=some (g.rules[i]'(by omega)):=aaB (by omega)
      simp(disch:=omega)only[↓wr,seval,wq,a,b,ag,bg,encI,aaE,c,aaH]
      apply aj.dec<;>intro j
      .simp(disch:=omega)only[↓wr,seval,wq]
       have:g.rules.any (λr=>decide (20 < r.right.length))=true:=by
        simp only[acG,aaP]
        exact⟨g.rules[i]'(by omega),aaL _,by omega⟩
       simp[qC,this]
      .simp(disch:=omega)only[↓wr,seval,wq,a,b]
       refine⟨k - 1,by omega,i+1,by omega,?_,rfl,rfl⟩
       intro r hr
       rw[aa3,c] at hr
       simp only[Option.toList_some,aa1,abL] at hr
       rcases hr with hr | rfl
       .exact hi r hr
       .omega
     .simp(disch:=omega)only[↓wr,seval,wq,a,b]
      have e:i=g.rules.length:=by omega
      rw[aaS (by omega)] at hi
      have:g.rules.any (λr=>decide (20 < r.right.length))=false:=by
       simp only[List.any_eq_false,aaP];exact hi
      simp only[qC,this]
      simp;omega
def dB (l:List Int) (is:List Bool) (ai:Bool):Bool:=l.all λs=>if 0<=s then ai else is.getD (-1 - s).toNat false
def rf:SC :=
 ae [ae [ab [aa 8 7,aa 9 0,aN 10 9,aQ 11 .lss 8 10],bX 11 (.exit 0)],.block 1 (ae [.region false [⟨none,[aa 14 0,aa 15 7,aO 16 1 14 15,ak 17 16,aF 18 .geq 17 0,aa 19 18]⟩,⟨(some (19,true)),[aa 20 2,c9 21 20]⟩,⟨none,[eO 22 19 21,aa 23 22]⟩,⟨(some (23,false)),[aa 24 0,aa 25 7,aO 26 1 24 25,ak 27 26,aF 28 .lss 27 0,aa 29 28]⟩,⟨(some (29,true)),[aa 30 1,aa 31 0,aa 32 7,aO 33 1 31 32,ak 34 33,((some 35),.op (.arith .sub (.val (.val (.int .i64 (-1)))) (.tmp 34))),aO 36 1 30 35,ak 37 36,c9 38 37]⟩,⟨(some (23,false)),[eO 39 29 38]⟩,⟨none,[cy 40 23 39]⟩],bb 40 (ae [ab [bB 6 false],.ret])]),ab [aa 12 7,aF 13 .add 12 1,aa 7 13]]
def tK:SF:=⟨ae [ab [bB 6 false],ae [ab [aR 7 0],bZ 0 rf],ab [bB 6 true],.ret],
 [.tmp 6],41⟩
theorem yT:aP Tryz.prog 95 []=some tK:=by kernel_rfl
theorem Yq (l:List Int) (is:List Bool) (t:Bool) (p:aK l) (q:∀ s∈l,bM s/\(s < 0->-1 - s < is.length)) (H:View) :
  aw Tryz.prog 95 [encI l,cI is,gb t] H λr H'=>r=gb (dB l is t)/\H'=H:=by
 refine aw.of mixed yT ?_
 unfold aK at p
 simp(disch:=omega)only[↓wr,seval,wq,tK]
 refine ba.intro (λk T H'=>∃ i:Nat,i+k=l.length/\dB (l.take i) is t=true/\T 0=encI l/\T 1=cI is/\T 2=gb t/\T 7=gi i/\H'=H) l.length ?_ ?_
 .exact⟨0,by omega,by simp[dB],rfl,rfl,rfl,rfl,rfl⟩
 .rintro k T H' ⟨i,hk,hi,d,h1,f,g,rfl⟩
  simp(disch:=omega)only[↓wr,seval,wq,rf,d,h1,f,g,encI]
  apply aj.dec<;>intro u
  .have h:l[i]?=some (l[i]'(by omega)):=aaB (by omega)
   have hm:l[i]'(by omega)∈l:=aaL _
   generalize l[i]'(by omega)=s at h hm
   obtain⟨⟨v,w⟩,x⟩:=q s hm
   have a:dB (l.take (i+1)) is t=(if 0<=s then t else is.getD (-1 - s).toNat false):=by
    rw[aa3,h]
    simp only[dB,Option.toList_some,List.all_append,abQ,List.all_nil,Bool.and_true] at hi ⊢
    rw[hi,abM]
   have c:(if 0<=s then t else is.getD (-1 - s).toNat false)=false->dB l is t=false:=by
    intro j
    simp only[dB,List.all_eq_false]
    exact⟨s,hm,by simpa using j⟩
   simp(disch:=omega)only[↓wr,seval,wq,d,h1,f,g,encI,aaE,h,aaH]
   apply aj.dec<;>intro n
   .rw[aaF (show 0<=s from n)] at a c
    cases t with
    | true =>
     simp(disch:=omega)only[↓wr,seval,wq,d,h1,f,g,encI,aaE,h,aaH]
     refine aj.dec (λm=>absurd m (by omega)) (λ_=>?_)
     simp(disch:=omega)only[↓wr,seval,wq,d,h1,f,g,encI,cI,aaE,h,aaH]
     exact⟨k - 1,by omega,i+1,by omega,a,rfl⟩
    | false =>
     simp(disch:=omega)only[↓wr,seval,wq,d,h1,f,g,encI,aaE,h,aaH]
     rw[c rfl]
   .rw[aaD (show ¬ 0<=s from n)] at a c
    simp(disch:=omega)only[↓wr,seval,wq,d,h1,f,g,encI,aaE,h,aaH]
    refine aj.dec (λm=>?_) (λm=>absurd m (by omega))
    have j:is[(-1 - s).toNat]?=some (is[(-1 - s).toNat]'(by omega)):=aaB (by omega)
    have o:is.getD (-1 - s).toNat false=is[(-1 - s).toNat]'(by omega):=by simp[aaA,j]
    rw[o] at a c
    generalize is[(-1 - s).toNat]'(by omega)=b at j a c
    simp(disch:=omega)only[↓wr,seval,wq,d,h1,f,g,encI,cI,aaE,h,j,aaH]
    cases b with
    | true =>
     simp(disch:=omega)only[↓wr,seval,wq,d,h1,f,g,encI,cI,aaE,h,j,aaH]
     exact⟨k - 1,by omega,i+1,by omega,a,rfl⟩
    | false =>
     simp(disch:=omega)only[↓wr,seval,wq,d,h1,f,g,encI,cI,aaE,h,j,aaH]
     rw[c rfl]
  .simp(disch:=omega)only[↓wr,seval,wq,d,h1,f,g]
   have e:i=l.length:=by omega
   rw[aaS (by omega)] at hi
   rw[hi]
abbrev gy (x:Int):V:=.val (.int .u8 x)
def yC (c:Int):Bool:=(decide (97<=c) && decide (c<=122)) || (decide (65<=c) && decide (c<=90)) || c == 95
def qa (c:Int):Bool:=yC c || (decide (48<=c) && decide (c<=57)) || c == 46
def qI:SF:=⟨ae [ab [bB 2 false],.region false [⟨none,[aa 3 0,((some 4),.op (.arith .geq (.tmp 3) (.val (.val (.int .u8 97))))),aa 5 4]⟩,⟨(some (5,true)),[aa 6 0,((some 7),.op (.arith .leq (.tmp 6) (.val (.val (.int .u8 122)))))]⟩,⟨none,[eO 8 5 7,aa 9 8]⟩,⟨(some (9,false)),[aa 10 0,((some 11),.op (.arith .geq (.tmp 10) (.val (.val (.int .u8 65))))),aa 12 11]⟩,⟨(some (12,true)),[aa 13 0,((some 14),.op (.arith .leq (.tmp 13) (.val (.val (.int .u8 90)))))]⟩,⟨(some (9,false)),[eO 15 12 14]⟩,⟨none,[cy 16 9 15,aa 17 16]⟩,⟨(some (17,false)),[aa 18 0,((some 19),.op (.arith .eql (.tmp 18) (.val (.val (.int .u8 95)))))]⟩,⟨none,[cy 20 17 19,aa 2 20]⟩],.ret],
 [.tmp 2],21⟩
theorem wW:aP Tryz.prog 233 []=some qI:=by kernel_rfl
def qJ:SF:=⟨ae [ab [bB 2 false],.region false [⟨none,[aa 3 0,bk 4 233 [3],aa 5 4]⟩,⟨(some (5,false)),[aa 6 0,((some 7),.op (.arith .geq (.tmp 6) (.val (.val (.int .u8 48))))),aa 8 7]⟩,⟨(some (8,true)),[aa 9 0,((some 10),.op (.arith .leq (.tmp 9) (.val (.val (.int .u8 57)))))]⟩,⟨(some (5,false)),[eO 11 8 10]⟩,⟨none,[cy 12 5 11,aa 13 12]⟩,⟨(some (13,false)),[aa 14 0,((some 15),.op (.arith .eql (.tmp 14) (.val (.val (.int .u8 46)))))]⟩,⟨none,[cy 16 13 15,aa 2 16]⟩],.ret],
 [.tmp 2],17⟩
theorem xB:aP Tryz.prog 234 []=some qJ:=by kernel_rfl
theorem Vs (c:Int) (H:View):aw Tryz.prog 233 [gy c] H λr H'=>r=gb (yC c)/\H'=H:=by
 refine aw.of mixed wW ?_
 repeat' (first | ((first|apply aj.dec|apply aj.eq|apply aj.ne|apply aj.split)<;>intro)|(simp(disch:=omega)only[↓wr,seval,wq,qI]))
 all_goals (congr 2;simp only[yC];grind)
theorem Lz (c:Int):az Tryz.prog 233 [gy c] (gb (yC c)) :=
 az.of (by intro v a;simp at a;subst a;exact .val _) ((Vs c _).mono λr H' h b _=>by rw[h.1];exact .tree _ (.val _))
theorem Uu (c:Int) (H:View):aw Tryz.prog 234 [gy c] H λr H'=>r=gb (qa c)/\H'=H:=by
 refine aw.of mixed xB ?_
 repeat' (first | ((first|apply aj.dec|apply aj.eq|apply aj.ne|apply aj.split)<;>intro)|(simp(disch:=omega)only[↓wr,seval,wq,qJ]))
 refine ax.pure (Lz c) ?_
 repeat' (first | ((first|apply aj.dec|apply aj.eq|apply aj.ne|apply aj.split)<;>intro)|(simp(disch:=omega)only[↓wr,seval,wq]))
 all_goals (congr 2;simp only[qa];grind)
theorem VL (c:Int):az Tryz.prog 234 [gy c] (gb (qa c)) :=
 az.of (by intro v a;simp at a;subst a;exact .val _) ((Uu c _).mono λr H' h b _=>by rw[h.1];exact .tree _ (.val _))
def gZ (l:List Int):Bool:=decide (0 < l.length) && decide (l.length<=20) && (match l with | c :: _=>yC c | []=>false) && l.all qa
def pR:SC :=
 ae [ae [ab [aa 18 3,aa 19 0,((some 20),.op (.rN (.tmp 19))),aQ 21 .lss 18 20],bX 21 (.exit 0)],.block 1 (ae [ab [aa 24 0,aa 25 3,((some 26),.op (.jm (.tmp 24) (.tmp 25))),bk 27 234 [26],c9 28 27],bb 28 (ae [ab [bB 2 false],.ret])]),ab [aa 22 3,aF 23 .add 22 1,aa 3 23]]
def sE:SF:=⟨ae [ab [bB 2 false],ae [.region false [⟨none,[aa 4 0,((some 5),.op (.rN (.tmp 4))),aF 6 .eql 5 0,aa 7 6]⟩,⟨(some (7,false)),[aa 8 0,((some 9),.op (.rN (.tmp 8))),aF 10 .gtr 9 20]⟩,⟨none,[cy 11 7 10,aa 12 11]⟩,⟨(some (12,false)),[aa 13 0,((some 14),.op (.jm (.tmp 13) (.val (.val (.int .i64 0))))),bk 15 233 [14],c9 16 15]⟩,⟨none,[cy 17 12 16]⟩],bb 17 (ae [ab [bB 2 false],.ret])],ae [ab [aR 3 0],bZ 0 pR],ab [bB 2 true],.ret],
 [.tmp 2],29⟩
theorem yi:aP Tryz.prog 172 []=some sE:=by kernel_rfl
theorem Tg (s:ByteArray) (H:View):aw Tryz.prog 172 [gs s] H λr H'=>r=gb (gZ (gp s))/\H'=H:=by
 refine aw.of mixed yi ?_
 repeat' (first | ((first|apply aj.dec|apply aj.eq|apply aj.ne|apply aj.split)<;>intro)|(simp(disch:=omega)only[↓wr,seval,wq,sE,fF]))
 .rename_i h
  congr 2;simp[gZ,show (gp s).length=0 by omega]
 .rename_i h
  congr 2;simp[gZ,show ¬ (gp s).length<=20 by omega]
 .rename_i h1 g
  cases a:gp s with
  | nil=>simp[a] at h1
  | cons c l =>
   repeat' (first | ((first|apply aj.dec|apply aj.eq|apply aj.ne|apply aj.split)<;>intro)|(simp(disch:=omega)only[↓wr,seval,wq,a,aa5,fF]))
   refine ax.pure (Lz c) ?_
   repeat' (first | ((first|apply aj.dec|apply aj.eq|apply aj.ne|apply aj.split)<;>intro)|(simp(disch:=omega)only[↓wr,seval,wq,a,aa5,fF]))
   .rename_i j
    refine ba.intro (λk T H'=>∃ i:Nat,i+k=(c :: l).length/\((c :: l).take i).all qa=true/\T 0=gs s/\T 3=gi i/\H'=H) (c :: l).length ?_ ?_
    .exact⟨0,by omega,by simp,rfl,rfl,rfl⟩
    .rintro k T H' ⟨i,hk,hi,b,e,rfl⟩
     rw[a] at h1 g
     simp(disch:=omega)only[↓wr,seval,wq,pR,b,e,fF,a]
     apply aj.dec<;>intro m
     .simp only[aaN] at m hk g
      have f:(c :: l)[i]?=some ((c :: l)[i]'(by simp;omega)):=aaB (by simp;omega)
      have hm:(c :: l)[i]'(by simp;omega)∈c :: l:=aaL _
      generalize (c :: l)[i]'(by simp;omega)=d at f hm
      simp(disch:=omega)only[↓wr,seval,wq,b,e,fF,a,f]
      refine ax.pure (VL d) ?_
      repeat' (first | ((first|apply aj.dec|apply aj.eq|apply aj.ne|apply aj.split)<;>intro)|(simp(disch:=omega)only[↓wr,seval,wq,b,e,fF,a,f]))
      .rename_i n
       refine⟨k - 1,by omega,i+1,by omega,?_,rfl⟩
       rw[aa3,f]
       simp only[Option.toList_some,List.all_append,hi,abQ,n,List.all_nil,Bool.and_self]
      .rename_i n
       congr 2
       have:(c :: l).all qa=false:=by
        rw[List.all_eq_false];exact⟨d,hm,by simp[n]⟩
       simp only[gZ,this,acy]
     .simp(disch:=omega)only[↓wr,seval,wq,b,e]
      simp only[aaN] at m hk g
      rw[aaS (by simp;omega)] at hi
      congr 2
      simp only[gZ,hi,aaN]
      simp[j];omega
   .rename_i j
    congr 2;simp[gZ,j]
def ow:List Int->Bool
 | [a,b,c]=>a == 39 && c == 39 && decide (32<=b) && decide (b<=126) && b != 39 && b != 92
 | [a,b,c,d]=>a == 39 && d == 39 && b == 92 && (c == 110 || c == 116 || c == 92 || c == 39)
 | _=>false
theorem V8 {l:List Int} (a:l.length≠3) (b:l.length≠4):ow l=false:=by
 match l,a,b with
 | [],_,_=>rfl
 | [_],_,_=>rfl
 | [_,_],_,_=>rfl
 | [_,_,_],a,_=>exact absurd rfl a
 | [_,_,_,_],_,b=>exact absurd rfl b
 | _ :: _ :: _ :: _ :: _ :: _,_,_=>rfl
theorem ZS {α:Type} {l:List α} (h:l.length=3):∃ a b c,l=[a,b,c]:=by
 match l,h with
 | [a,b,c],_=>exact⟨a,b,c,rfl⟩
theorem Z5 {α:Type} {l:List α} (h:l.length=4):∃ a b c d,l=[a,b,c,d]:=by
 match l,h with
 | [a,b,c,d],_=>exact⟨a,b,c,d,rfl⟩
def oT:SF:=⟨ae [ab [bB 2 false],ae [ab [aa 3 0,((some 4),.op (.rN (.tmp 3))),aF 5 .eql 4 3],bb 5 (ae [.region false [⟨none,[aa 6 0,((some 7),.op (.jm (.tmp 6) (.val (.val (.int .i64 0))))),((some 8),.op (.arith .eql (.tmp 7) (.val (.val (.int .u8 39))))),aa 9 8]⟩,⟨(some (9,true)),[aa 10 0,((some 11),.op (.jm (.tmp 10) (.val (.val (.int .i64 2))))),((some 12),.op (.arith .eql (.tmp 11) (.val (.val (.int .u8 39)))))]⟩,⟨none,[eO 13 9 12,aa 14 13]⟩,⟨(some (14,true)),[aa 15 0,((some 16),.op (.jm (.tmp 15) (.val (.val (.int .i64 1))))),((some 17),.op (.arith .geq (.tmp 16) (.val (.val (.int .u8 32)))))]⟩,⟨none,[eO 18 14 17,aa 19 18]⟩,⟨(some (19,true)),[aa 20 0,((some 21),.op (.jm (.tmp 20) (.val (.val (.int .i64 1))))),((some 22),.op (.arith .leq (.tmp 21) (.val (.val (.int .u8 126)))))]⟩,⟨none,[eO 23 19 22,aa 24 23]⟩,⟨(some (24,true)),[aa 25 0,((some 26),.op (.jm (.tmp 25) (.val (.val (.int .i64 1))))),((some 27),.op (.arith .neq (.tmp 26) (.val (.val (.int .u8 39)))))]⟩,⟨none,[eO 28 24 27,aa 29 28]⟩,⟨(some (29,true)),[aa 30 0,((some 31),.op (.jm (.tmp 30) (.val (.val (.int .i64 1))))),((some 32),.op (.arith .neq (.tmp 31) (.val (.val (.int .u8 92)))))]⟩,⟨none,[eO 33 29 32,aa 2 33]⟩],.ret])],.region false [⟨none,[aa 34 0,((some 35),.op (.rN (.tmp 34))),aF 36 .eql 35 4,aa 37 36]⟩,⟨(some (37,true)),[aa 38 0,((some 39),.op (.jm (.tmp 38) (.val (.val (.int .i64 0))))),((some 40),.op (.arith .eql (.tmp 39) (.val (.val (.int .u8 39)))))]⟩,⟨none,[eO 41 37 40,aa 42 41]⟩,⟨(some (42,true)),[aa 43 0,((some 44),.op (.jm (.tmp 43) (.val (.val (.int .i64 3))))),((some 45),.op (.arith .eql (.tmp 44) (.val (.val (.int .u8 39)))))]⟩,⟨none,[eO 46 42 45,aa 47 46]⟩,⟨(some (47,true)),[aa 48 0,((some 49),.op (.jm (.tmp 48) (.val (.val (.int .i64 1))))),((some 50),.op (.arith .eql (.tmp 49) (.val (.val (.int .u8 92)))))]⟩,⟨none,[eO 51 47 50,aa 52 51]⟩,⟨(some (52,true)),[aa 53 0,((some 54),.op (.jm (.tmp 53) (.val (.val (.int .i64 2))))),((some 55),.op (.arith .eql (.tmp 54) (.val (.val (.int .u8 110))))),aa 56 55]⟩,⟨(some (56,false)),[aa 57 0,((some 58),.op (.jm (.tmp 57) (.val (.val (.int .i64 2))))),((some 59),.op (.arith .eql (.tmp 58) (.val (.val (.int .u8 116)))))]⟩,⟨(some (52,true)),[cy 60 56 59,aa 61 60]⟩,⟨(some (61,false)),[aa 62 0,((some 63),.op (.jm (.tmp 62) (.val (.val (.int .i64 2))))),((some 64),.op (.arith .eql (.tmp 63) (.val (.val (.int .u8 92)))))]⟩,⟨(some (52,true)),[cy 65 61 64,aa 66 65]⟩,⟨(some (66,false)),[aa 67 0,((some 68),.op (.jm (.tmp 67) (.val (.val (.int .i64 2))))),((some 69),.op (.arith .eql (.tmp 68) (.val (.val (.int .u8 39)))))]⟩,⟨(some (52,true)),[cy 70 66 69]⟩,⟨none,[eO 71 52 70,aa 2 71]⟩],.ret],
 [.tmp 2],72⟩
theorem vr:aP Tryz.prog 232 []=some oT:=by kernel_rfl
def q8:SF:=⟨ae [ab [bB 2 false],.region false [⟨none,[aa 3 0,bk 4 172 [3],aa 5 4]⟩,⟨(some (5,false)),[aa 6 0,bk 7 232 [6]]⟩,⟨none,[cy 8 5 7,aa 2 8]⟩],.ret],
 [.tmp 2],9⟩
theorem xG:aP Tryz.prog 169 []=some q8:=by kernel_rfl
theorem V5 (s:ByteArray) (H:View):aw Tryz.prog 232 [gs s] H λr H'=>r=gb (ow (gp s))/\H'=H:=by
 refine aw.of mixed vr ?_
 simp(disch:=omega)only[↓wr,seval,wq,oT,fF]
 apply aj.eq<;>intro h
 .obtain⟨a,b,c,e⟩:=ZS (l:=gp s) (by omega)
  repeat' (first | ((first|apply aj.dec|apply aj.eq|apply aj.ne|apply aj.split)<;>intro)|(simp(disch:=omega)only[↓wr,seval,wq,e,aa5,abr]))
  all_goals (congr 2;simp only[ow];grind)
 .simp(disch:=omega)only[↓wr,seval,wq,fF]
  apply aj.eq<;>intro f
  .obtain⟨a,b,c,d,e⟩:=Z5 (l:=gp s) (by omega)
   repeat' (first | ((first|apply aj.dec|apply aj.eq|apply aj.ne|apply aj.split)<;>intro)|(simp(disch:=omega)only[↓wr,seval,wq,e,aa5,abr]))
   all_goals (congr 2;simp only[ow];grind)
  .repeat' (first | ((first|apply aj.dec|apply aj.eq|apply aj.ne|apply aj.split)<;>intro)|(simp(disch:=omega)only[↓wr,seval,wq,fF]))
   rw[V8 (by omega) (by omega)]
theorem rP (s:ByteArray):∀ v∈[gs s],Tree v:=by intro v a;simp at a;subst a;exact .val _
theorem Hv (s:ByteArray):az Tryz.prog 172 [gs s] (gb (gZ (gp s))) :=
 az.of (rP s) ((Tg s _).mono λr H' h a _=>by rw[h.1];exact .tree _ (.val _))
theorem VX (s:ByteArray):az Tryz.prog 232 [gs s] (gb (ow (gp s))) :=
 az.of (rP s) ((V5 s _).mono λr H' h a _=>by rw[h.1];exact .tree _ (.val _))
def sN (l:List Int):Bool:=gZ l || ow l
theorem Px (s:ByteArray) (H:View):aw Tryz.prog 169 [gs s] H λr H'=>r=gb (sN (gp s))/\H'=H:=by
 refine aw.of mixed xG ?_
 simp(disch:=omega)only[↓wr,seval,wq,q8]
 refine ax.pure (Hv s) ?_
 repeat' (first | ((first|apply aj.dec|apply aj.eq|apply aj.ne|apply aj.split)<;>intro)|(simp(disch:=omega)only[↓wr,seval,wq]))
 .rename_i h;simp[sN,h]
 .rename_i h
  refine ax.pure (VX s) ?_
  repeat' (first | ((first|apply aj.dec|apply aj.eq|apply aj.ne|apply aj.split)<;>intro)|(simp(disch:=omega)only[↓wr,seval,wq]))
  simp[sN,h]
theorem Pr (s:ByteArray):az Tryz.prog 169 [gs s] (gb (sN (gp s))) :=
 az.of (rP s) ((Px s _).mono λr H' h a _=>by rw[h.1];exact .tree _ (.val _))
def pJ (s:ByteArray):List ByteArray->Int->Int
 | [],_=>-1
 | x :: l,i=>if jT x s=true then i else pJ s l (i+1)
def nV (g:af) (s:ByteArray):Int:=pJ s (g.ai.map Term.name) 0
def Bg (g:af) (s:ByteArray):Int:=pJ s g.al 0
theorem fq {α:Type} {l:List α} {i:Nat} (h:i < l.length):l.drop i=l[i] :: l.drop (i+1):=abo h
theorem Ls (g:af) (s:ByteArray):∀ v∈[V.agg (ag g),gs s],Tree v:=by
 intro v a;simp at a
 rcases a with rfl | rfl
 .exact bL _ (cd g)
 .exact .val _
theorem eK (g:af):∀ v∈[V.agg (ag g)],Tree v:=by intro v a;simp at a;subst a;exact bL _ (cd g)
theorem Kn (g:af) (x:Int):∀ v∈[V.agg (ag g),gi x],Tree v:=by
 intro v a;simp at a
 rcases a with rfl | rfl
 .exact bL _ (cd g)
 .exact .val _
theorem az.val {P:Program} {f:FuncId} {vs:List V} {x:Value} (a:∀ v∈vs,Tree v) (h:∀ H,aw P f vs H λr _=>r=.val x):az P f vs (.val x) :=
 az.of a ((h _).mono λr H' e b _=>by rw[e];exact .tree _ (.val _))
def pT:SC :=
 ae [ae [ab [aa 6 5,ao 7 0 2,ak 8 7,aN 9 8,aQ 10 .lss 6 9],bX 10 (.exit 0)],.block 1 (ae [ab [ao 13 0 2,ak 14 13,aa 15 5,aO 16 3 14 15,ao 17 0 16,ak 18 17,aa 19 1,((some 20),.op (.Ae .eql (.tmp 18) (.tmp 19)))],bb 20 (ae [ab [aa 21 5,aa 4 21],.ret])]),ab [aa 11 5,aF 12 .add 11 1,aa 5 12]]
def tb:SF:=⟨ae [ab [cF 2 0,aR 4 0],ae [ab [aR 5 0],bZ 0 pT],ab [aR 4 (-1)],.ret],
 [.tmp 4],22⟩
theorem yz:aP Tryz.prog 170 [2]=some tb:=by kernel_rfl
def qW:SC :=
 ae [ae [ab [aa 6 5,ao 7 1 2,ak 8 7,aN 9 8,aQ 10 .lss 6 9],bX 10 (.exit 0)],.block 1 (ae [ab [ao 13 1 2,ak 14 13,aa 15 5,aO 16 1 14 15,ak 17 16,aa 18 1,((some 19),.op (.Ae .eql (.tmp 17) (.tmp 18)))],bb 19 (ae [ab [aa 20 5,aa 4 20],.ret])]),ab [aa 11 5,aF 12 .add 11 1,aa 5 12]]
def tI:SF:=⟨ae [ab [cF 2 0,aR 4 0],ae [ab [aR 5 0],bZ 0 qW],ab [aR 4 (-1)],.ret],
 [.tmp 4],21⟩
theorem zu:aP Tryz.prog 150 [2]=some tI:=by kernel_rfl
def oO:SC :=
 ae [ae [ab [aa 8 6,ao 9 0 2,ak 10 9,aN 11 10,aQ 12 .lss 8 11],bX 12 (.exit 0)],.block 1 (ae [.region false [⟨none,[ao 15 0 2,ak 16 15,aa 17 6,aO 18 3 16 17,aZ 19 3 18,((some 7),.op (.alloc [(.val (.string ⟨#[]⟩)),(.val (.int .i64 0)),(.val (.int .i64 0))])),cD 3 7 19]⟩],ae [ab [ao 20 1 7,ak 21 20,aa 22 1,aQ 23 .neq 21 22],bb 23 (.exit 1)],ae [.region false [⟨none,[aa 24 5,aF 25 .neq 24 0,aa 26 25]⟩,⟨(some (26,true)),[aa 27 5,ao 28 2 7,ak 29 28,aQ 30 .neq 27 29]⟩,⟨none,[eO 31 26 30]⟩],bb 31 (ae [ab [bB 4 false],.ret])],ab [ao 32 2 7,ak 33 32,aa 5 33]]),ab [aa 13 6,aF 14 .add 13 1,aa 6 14]]
def qZ:SF:=⟨ae [ab [cF 2 0,bB 4 false],ab [aR 5 0],ae [ab [aR 6 0],bZ 0 oO],ab [aa 34 5,aF 35 .neq 34 0,aa 4 35],.ret],
 [.tmp 4],36⟩
theorem xj:aP Tryz.prog 171 [2]=some qZ:=by kernel_rfl
theorem QM (g:af) (e:g.Ok) (s:ByteArray) (H:View):aw Tryz.prog 170 [.agg (ag g),gs s] H λr _=>r=gi (nV g s):=by
 refine aw.of mixed yz ?_
 have h:g.ai.length < 4611686018427387904:=e.ai
 simp(disch:=omega)only[↓wr,seval,wq,tb,ag,encS]
 refine ba.intro (λk T _=>∃ i:Nat,i+k=g.ai.length/\pJ s ((g.ai.drop i).map Term.name) i=nV g s/\T 1=gs s/\T 2=.aL (ag g) 0/\T 5=gi i) g.ai.length ?_ ?_
 .exact⟨0,by omega,rfl,rfl,rfl,rfl⟩
 .rintro k T H' ⟨i,hk,hi,h1,a,b⟩
  simp(disch:=omega)only[↓wr,seval,wq,pT,h1,a,b,ag]
  apply aj.dec<;>intro f
  .have c:g.ai[i]?=some (g.ai[i]'(by omega)):=aaB (by omega)
   rw[fq (show i < g.ai.length by omega)] at hi
   generalize g.ai[i]'(by omega)=t at c hi
   simp only[aa9,pJ] at hi
   simp(disch:=omega)only[↓wr,seval,wq,h1,a,b,ag,dg,aaE,c,aaH]
   apply aj.split<;>intro d
   .rw[aaF d] at hi
    simp(disch:=omega)only[↓wr,seval,wq,h1,a,b]
    rw[hi]
   .rw[d,aaD (by simp)] at hi
    simp(disch:=omega)only[↓wr,seval,wq,h1,a,b]
    exact⟨k - 1,by omega,i+1,by omega,by push_cast;exact hi,rfl,rfl⟩
  .rw[aa7 (by omega)] at hi
   simp only[acb,pJ] at hi
   simp(disch:=omega)only[↓wr,seval,wq,h1,a,b]
   rw[hi]
theorem G5 (g:af) (a:g.Ok) (s:ByteArray):az Tryz.prog 170 [.agg (ag g),gs s] (gi (nV g s)):=az.val (Ls g s) (QM g a s)
theorem UE (g:af) (e:g.Ok) (s:ByteArray) (H:View):aw Tryz.prog 150 [.agg (ag g),gs s] H λr _=>r=gi (Bg g s):=by
 refine aw.of mixed zu ?_
 have h:g.al.length < 4611686018427387904:=e.al
 simp(disch:=omega)only[↓wr,seval,wq,tI,ag,encS]
 refine ba.intro (λk T _=>∃ i:Nat,i+k=g.al.length/\pJ s (g.al.drop i) i=Bg g s/\T 1=gs s/\T 2=.aL (ag g) 0/\T 5=gi i) g.al.length ?_ ?_
 .exact⟨0,by omega,rfl,rfl,rfl,rfl⟩
 .rintro k T H' ⟨i,hk,hi,h1,a,b⟩
  simp(disch:=omega)only[↓wr,seval,wq,qW,h1,a,b,ag,encS]
  apply aj.dec<;>intro f
  .have c:g.al[i]?=some (g.al[i]'(by omega)):=aaB (by omega)
   rw[fq (show i < g.al.length by omega)] at hi
   generalize g.al[i]'(by omega)=t at c hi
   simp only[aa9,pJ] at hi
   simp(disch:=omega)only[↓wr,seval,wq,h1,a,b,ag,encS,aaE,c,aaH]
   apply aj.split<;>intro d
   .rw[aaF d] at hi
    simp(disch:=omega)only[↓wr,seval,wq,h1,a,b]
    rw[hi]
   .rw[d,aaD (by simp)] at hi
    simp(disch:=omega)only[↓wr,seval,wq,h1,a,b]
    exact⟨k - 1,by omega,i+1,by omega,by push_cast;exact hi,rfl,rfl⟩
  .rw[aa7 (by omega)] at hi
   simp only[acb,pJ] at hi
   simp(disch:=omega)only[↓wr,seval,wq,h1,a,b]
   rw[hi]
theorem UU (g:af) (a:g.Ok) (s:ByteArray):az Tryz.prog 150 [.agg (ag g),gs s] (gi (Bg g s)):=az.val (Ls g s) (UE g a s)
def kD (n:Int):List Term->Int->Option Int
 | [],HR=>some HR
 | t :: r,HR=>if t.level=n then (if HR≠0/\HR≠t.assoc then none else kD n r t.assoc) else kD n r HR
def iJ (l:List Term) (n:Int):Bool:=match kD n l 0 with
 | some w=>w != 0
 | none=>false
theorem Ql (g:af) (l:g.Ok) (n:Int) (H:View):aw Tryz.prog 171 [.agg (ag g),gi n] H λr _=>r=gb (iJ g.ai n):=by
 refine aw.of mixed xj ?_
 have p:g.ai.length < 4611686018427387904:=l.ai
 simp(disch:=omega)only[↓wr,seval,wq,qZ,ag,encS]
 refine ba.intro (λk T _=>∃ (i:Nat) (w:Int),i+k=g.ai.length/\kD n (g.ai.drop i) w=kD n g.ai 0/\T 1=gi n/\T 2=.aL (ag g) 0/\T 5=gi w/\T 6=gi i) g.ai.length ?_ ?_
 .exact⟨0,0,by omega,rfl,rfl,rfl,rfl,rfl⟩
 .rintro k T H' ⟨i,w,hk,hi,h1,c,d,f⟩
  simp(disch:=omega)only[↓wr,seval,wq,oO,h1,c,d,f,ag]
  apply aj.dec<;>intro o
  .have h:g.ai[i]?=some (g.ai[i]'(by omega)):=aaB (by omega)
   rw[fq (show i < g.ai.length by omega)] at hi
   generalize g.ai[i]'(by omega)=t at h hi
   simp only[kD] at hi
   simp(disch:=omega)only[↓wr,seval,wq,h1,c,d,f,ag,dg,aaE,h,aaH]
   intro m hm
   try simp(disch:=omega)only[↓wr,seval,wq,h1,c,d,f]
   apply aj.ne<;>intro j
   .rw[aaD j] at hi
    simp(disch:=omega)only[↓wr,seval,wq,h1,c,d,f]
    exact⟨k - 1,by omega,i+1,w,by omega,hi,by first | rfl | exact⟨rfl,rfl⟩ | exact⟨rfl,rfl,rfl⟩⟩
   .rw[aaF j] at hi
    repeat' (first | ((first|apply aj.dec|apply aj.eq|apply aj.ne|apply aj.split)<;>intro)|(simp(disch:=omega)only[↓wr,seval,wq,h1,c,d,f]))
    .rename_i a b
     rw[aaF ⟨a,b⟩] at hi
     simp only[iJ,<-hi]
    .rename_i a b
     rw[aaD (λe=>e.2 b)] at hi
     exact⟨k - 1,by omega,i+1,_,by omega,hi,by first | rfl | exact⟨rfl,rfl⟩ | exact⟨rfl,rfl,rfl⟩⟩
    .rename_i a
     rw[aaD (λe=>e.1 a)] at hi
     exact⟨k - 1,by omega,i+1,_,by omega,hi,by first | rfl | exact⟨rfl,rfl⟩ | exact⟨rfl,rfl,rfl⟩⟩
  .rw[aa7 (by omega)] at hi
   simp only[kD] at hi
   simp(disch:=omega)only[↓wr,seval,wq,h1,c,d,f]
   simp only[iJ,<-hi]
theorem O1 (g:af) (a:g.Ok) (n:Int):az Tryz.prog 171 [.agg (ag g),gi n] (gb (iJ g.ai n)):=az.val (Kn g n) (Ql g a n)
def tR (g:af) (t:Term):Bool:=(List.range t.level.toNat).all λk=>iJ g.ai ((k:Int)+1)
def lR (g:af) (i:Int) (t:Term):Bool :=
 sN (gp t.name) && (nV g t.name == i) && decide (0<=t.level) && decide (t.level<=24) && decide (0<=t.assoc) && decide (t.assoc<=3) && ((t.level == 0) == (t.assoc == 0)) && tR g t
def k7 (g:af):List Term->Int->Bool
 | [],_=>true
 | t :: r,i=>lR g i t && k7 g r (i+1)
def lq (g:af):Bool:=decide (g.ai.length<=24) && k7 g g.ai 0
def oK:SC :=
 ae [ae [ab [aa 63 5,ao 64 1 4,ak 65 64,aQ 66 .leq 63 65],bX 66 (.exit 2)],.block 3 (ae [ab [aZ 69 4 1,aa 70 5,bk 71 171 [69,70],c9 72 71],bb 72 (ae [ab [bB 2 false],.ret])]),ab [aa 67 5,aF 68 .add 67 1,aa 5 68]]
def oQ:SC :=
 ae [ae [ab [aa 10 3,ao 11 0 1,ak 12 11,aN 13 12,aQ 14 .lss 10 13],bX 14 (.exit 0)],.block 1 (ae [.region false [⟨none,[ao 17 0 1,ak 18 17,aa 19 3,aO 20 3 18 19,aZ 21 3 20,((some 4),.op (.alloc [(.val (.string ⟨#[]⟩)),(.val (.int .i64 0)),(.val (.int .i64 0))])),cD 3 4 21]⟩],ae [.region false [⟨none,[ao 22 0 4,ak 23 22,bk 24 169 [23],c9 25 24,aa 26 25]⟩,⟨(some (26,false)),[aZ 27 4 1,ao 28 0 4,ak 29 28,bk 30 170 [27,29],aa 31 3,aQ 32 .neq 30 31]⟩,⟨none,[cy 33 26 32,aa 34 33]⟩,⟨(some (34,false)),[ao 35 1 4,ak 36 35,aF 37 .lss 36 0]⟩,⟨none,[cy 38 34 37,aa 39 38]⟩,⟨(some (39,false)),[ao 40 1 4,ak 41 40,aF 42 .gtr 41 24]⟩,⟨none,[cy 43 39 42,aa 44 43]⟩,⟨(some (44,false)),[ao 45 2 4,ak 46 45,aF 47 .lss 46 0]⟩,⟨none,[cy 48 44 47,aa 49 48]⟩,⟨(some (49,false)),[ao 50 2 4,ak 51 50,aF 52 .gtr 51 3]⟩,⟨none,[cy 53 49 52,aa 54 53]⟩,⟨(some (54,false)),[ao 55 1 4,ak 56 55,aF 57 .eql 56 0,ao 58 2 4,ak 59 58,aF 60 .eql 59 0,((some 61),.op (.beq false (.tmp 57) (.tmp 60)))]⟩,⟨none,[cy 62 54 61]⟩],bb 62 (ae [ab [bB 2 false],.ret])],ab [aR 5 1],bZ 2 oK]),ab [aa 15 3,aF 16 .add 15 1,aa 3 16]]
def qV:SF:=⟨ae [ab [cF 1 0,bB 2 false],ae [ab [ao 6 0 1,ak 7 6,aN 8 7,aF 9 .gtr 8 24],bb 9 (ae [ab [bB 2 false],.ret])],ae [ab [aR 3 0],bZ 0 oQ],ab [bB 2 true],.ret],
 [.tmp 2],73⟩
theorem xF:aP Tryz.prog 104 [1]=some qV:=by kernel_rfl
def pC:SC :=
 ae [ae [ab [aa 14 3,ao 15 1 1,ak 16 15,aN 17 16,aQ 18 .lss 14 17],bX 18 (.exit 0)],.block 1 (ae [.region false [⟨none,[ao 21 1 1,ak 22 21,aa 23 3,aO 24 1 22 23,ak 25 24,bk 26 172 [25],c9 27 26,aa 28 27]⟩,⟨(some (28,false)),[aZ 29 4 1,ao 30 1 1,ak 31 30,aa 32 3,aO 33 1 31 32,ak 34 33,bk 35 150 [29,34],aa 36 3,aQ 37 .neq 35 36]⟩,⟨none,[cy 38 28 37,aa 39 38]⟩,⟨(some (39,false)),[aZ 40 4 1,ao 41 1 1,ak 42 41,aa 43 3,aO 44 1 42 43,ak 45 44,bk 46 170 [40,45],aF 47 .geq 46 0]⟩,⟨none,[cy 48 39 47]⟩],bb 48 (ae [ab [bB 2 false],.ret])]),ab [aa 19 3,aF 20 .add 19 1,aa 3 20]]
def s6:SF:=⟨ae [ab [cF 1 0,bB 2 false],ae [.region false [⟨none,[ao 4 1 1,ak 5 4,aN 6 5,aF 7 .lss 6 1,aa 8 7]⟩,⟨(some (8,false)),[ao 9 1 1,ak 10 9,aN 11 10,aF 12 .gtr 11 16]⟩,⟨none,[cy 13 8 12]⟩],bb 13 (ae [ab [bB 2 false],.ret])],ae [ab [aR 3 0],bZ 0 pC],ab [bB 2 true],.ret],
 [.tmp 2],49⟩
theorem ym:aP Tryz.prog 105 [1]=some s6:=by kernel_rfl
def qq:SC :=
 ae [ae [ab [aa 23 5,ao 24 1 3,ak 25 24,aN 26 25,aQ 27 .lss 23 26],bX 27 (.exit 0)],.block 1 (ae [.region false [⟨none,[aZ 30 4 2,ao 31 1 3,ak 32 31,aa 33 5,aO 34 1 32 33,ak 35 34,bk 36 74 [30,35],c9 37 36,aa 38 37]⟩,⟨(some (38,false)),[ao 39 1 3,ak 40 39,aa 41 5,aO 42 1 40 41,ak 43 42,aF 44 .geq 43 0,aa 45 44]⟩,⟨(some (45,true)),[ao 46 2 3,ak 47 46,aF 48 .eql 47 (-1)]⟩,⟨(some (38,false)),[eO 49 45 48]⟩,⟨none,[cy 50 38 49]⟩],bb 50 (ae [ab [bB 4 false],.ret])]),ab [aa 28 5,aF 29 .add 28 1,aa 5 29]]
def tn:SF:=⟨ae [ab [cF 2 0,cF 3 1,bB 4 false],ae [.region false [⟨none,[ao 6 1 3,ak 7 6,aN 8 7,aF 9 .gtr 8 6,aa 10 9]⟩,⟨(some (10,false)),[ao 11 2 3,ak 12 11,aF 13 .lss 12 (-1)]⟩,⟨none,[cy 14 10 13,aa 15 14]⟩,⟨(some (15,false)),[ao 16 2 3,ak 17 16,ao 18 0 2,ak 19 18,aN 20 19,aQ 21 .geq 17 20]⟩,⟨none,[cy 22 15 21]⟩],bb 22 (ae [ab [bB 4 false],.ret])],ae [ab [aR 5 0],bZ 0 qq],ab [bB 4 true],.ret],
 [.tmp 4],51⟩
theorem xQ:aP Tryz.prog 106 [2,3]=some tn:=by kernel_rfl
def py:SC :=
 ae [ae [ab [aa 39 4,ao 40 2 1,ak 41 40,aN 42 41,aQ 43 .lss 39 42],bX 43 (.exit 0)],.block 1 (ae [ab [ao 46 2 1,ak 47 46,aa 48 4,aO 49 3 47 48,aZ 50 3 49,((some 5),.op (.alloc [(.val (.int .i64 0)),(.emp 1),(.val (.int .i64 0))])),cD 3 5 50],ae [.region false [⟨none,[ao 51 0 5,ak 52 51,aF 53 .lss 52 0,aa 54 53]⟩,⟨(some (54,false)),[ao 55 0 5,ak 56 55,aa 57 3,aF 58 .add 57 1,aQ 59 .gtr 56 58]⟩,⟨none,[cy 60 54 59,aa 61 60]⟩,⟨(some (61,false)),[aZ 62 4 1,aZ 63 3 5,bk 64 106 [62,63],c9 65 64]⟩,⟨none,[cy 66 61 65]⟩],bb 66 (ae [ab [bB 2 false],.ret])],ab [ao 67 0 5,ak 68 67,aa 69 3,aQ 70 .gtr 68 69],bb 70 (ab [ao 71 0 5,ak 72 71,aa 3 72])]),ab [aa 44 4,aF 45 .add 44 1,aa 4 45]]
def qS:SF:=⟨ae [ab [cF 1 0,bB 2 false],ae [.region false [⟨none,[aZ 6 4 1,bk 7 104 [6],c9 8 7,aa 9 8]⟩,⟨(some (9,false)),[aZ 10 4 1,bk 11 105 [10],c9 12 11]⟩,⟨none,[cy 13 9 12,aa 14 13]⟩,⟨(some (14,false)),[ao 15 2 1,ak 16 15,aN 17 16,aF 18 .lss 17 1]⟩,⟨none,[cy 19 14 18,aa 20 19]⟩,⟨(some (20,false)),[ao 21 2 1,ak 22 21,aN 23 22,aF 24 .gtr 23 40]⟩,⟨none,[cy 25 20 24,aa 26 25]⟩,⟨(some (26,false)),[ao 27 3 1,ak 28 27,aF 29 .lss 28 0]⟩,⟨none,[cy 30 26 29,aa 31 30]⟩,⟨(some (31,false)),[ao 32 3 1,ak 33 32,ao 34 1 1,ak 35 34,aN 36 35,aQ 37 .geq 33 36]⟩,⟨none,[cy 38 31 37]⟩],bb 38 (ae [ab [bB 2 false],.ret])],ab [aR 3 (-1)],ae [ab [aR 4 0],bZ 0 py],ab [aa 73 3,ao 74 1 1,ak 75 74,aN 76 75,aF 77 .sub 76 1,aQ 78 .eql 73 77,aa 2 78],.ret],
 [.tmp 2],79⟩
theorem wV:aP Tryz.prog 50 [1]=some qS:=by kernel_rfl
theorem OQ (g:af) (p:g.Ok) (H:View):aw Tryz.prog 104 [.agg (ag g)] H λr _=>r=gb (lq g):=by
 refine aw.of mixed xF ?_
 simp(disch:=omega)only[↓wr,seval,wq,qV,ag,encS]
 apply aj.dec<;>intro h
 .simp(disch:=omega)only[↓wr,seval,wq]
  simp[lq,show ¬ g.ai.length<=24 by omega]
 .have hle:g.ai.length<=24:=by omega
  simp(disch:=omega)only[↓wr,seval,wq]
  refine ba.intro (λk T _=>∃ i:Nat,i+k=g.ai.length/\k7 g (g.ai.drop i) i=k7 g g.ai 0/\T 1=.aL (ag g) 0/\T 3=gi i) g.ai.length ?_ ?_
  .exact⟨0,by omega,rfl,rfl,rfl⟩
  .rintro k T H' ⟨i,hk,hi,h1,d⟩
   simp(disch:=omega)only[↓wr,seval,wq,oQ,h1,d,ag]
   apply aj.dec<;>intro z
   .have f:g.ai[i]?=some (g.ai[i]'(by omega)):=aaB (by omega)
    rw[fq (show i < g.ai.length by omega)] at hi
    have b:g.ai[i]'(by omega)∈g.ai:=aaL _
    generalize g.ai[i]'(by omega)=t at f hi b
    obtain⟨⟨A,B⟩,⟨C,D⟩⟩:=p.term t b
    simp only[k7] at hi
    have a:lR g i t=false->gb false=gb (lq g):=λe=>by rw[e,ab2] at hi;simp[lq,<-hi]
    simp(disch:=omega)only[↓wr,seval,wq,h1,d,ag,dg,aaE,f,aaH]
    intro m hm
    try simp(disch:=omega)only[↓wr,seval,wq,h1,d]
    refine ax.pure (Pr t.name) ?_
    repeat' (first | ((first|apply aj.dec|apply aj.eq|apply aj.ne|apply aj.split)<;>intro)|(simp(disch:=omega)only[↓wr,seval,wq,h1,d,ag]))
    all_goals try (refine a ?_;simp[lR, *];done)
    rename_i s
    refine ax.pure (G5 g p t.name) ?_
    repeat' (first | ((first|apply aj.dec|apply aj.eq|apply aj.ne|apply aj.split)<;>intro)|(simp(disch:=omega)only[↓wr,seval,wq,h1,d,ag]))
    all_goals try (refine a ?_;simp[lR, *];done)
    all_goals try (refine a ?_;simp[lR];grind)
    rename_i E K L M N F
    have c:lR g i t=tR g t:=by
     have u:((t.level == 0) == (t.assoc == 0))=true:=by simpa using F
     simp[lR,s,E,u,show (0:Int)<=t.level by omega,show t.level<=24 by omega,show (0:Int)<=t.assoc by omega,show t.assoc<=3 by omega]
    refine ba.intro (λv T l=>∃ j:Nat,1<=j/\j+v=t.level.toNat+1/\(∀ q:Nat,q+1 < j->iJ g.ai ((q:Int)+1)=true)/\T 1=.aL (ag g) 0/\T 3=gi i/\T 4=.ptr m 0 0/\l m=.arr 3 [[gs t.name,gi t.level,gi t.assoc]]/\T 5=gi j) t.level.toNat ?_ ?_
    .refine⟨1,by omega,by omega,λq w=>by omega,?_⟩
     simp(disch:=omega)only[↓wr,↓reduceIte,wq,Nat.reduceEqDiff,Nat.reduceAdd,Nat.reduceLT,Nat.reduceLeDiff,Int.reduceNeg,Int.reduceToNat,reduceCtorEq,h1,d,ag]
     rfl
    .rintro v O l ⟨j,G,I,n,f1,f3,f4,o,f5⟩
     simp(disch:=omega)only[↓wr,seval,wq,oK,f1,f3,f4,f5,o]
     apply aj.dec<;>intro J
     .simp(disch:=omega)only[↓wr,seval,wq,f1,f3,f4,f5,o,ag]
      refine ax.pure (O1 g p j) ?_
      repeat' (first | ((first|apply aj.dec|apply aj.eq|apply aj.ne|apply aj.split)<;>intro)|(simp(disch:=omega)only[↓wr,seval,wq,f1,f3,f4,f5,o,ag]))
      .rename_i x
       refine⟨v - 1,by omega,j+1,by omega,by omega,λq w=>?_,by first | rfl | exact⟨rfl,rfl⟩ | exact⟨rfl,rfl,rfl⟩⟩
       by_cases e:q+1=j
       .have:(q:Int)+1=j:=by omega
        rw[this];exact x
       .exact n q (by omega)
      .rename_i x
       refine a ?_
       rw[c,tR,List.all_eq_false]
       refine⟨j - 1,by simp;omega,?_⟩
       have:((j - 1:Nat):Int)+1=j:=by omega
       rw[this,x];simp
     .simp(disch:=omega)only[↓wr,seval,wq,f1,f3,f4,f5,o]
      refine⟨k - 1,by omega,i+1,by omega,?_,by first | rfl | exact⟨rfl,rfl⟩ | exact⟨rfl,rfl,rfl⟩⟩
      have y:tR g t=true:=by
       rw[tR,aaZ]
       intro q w
       exact n q (by simp at w;omega)
      rw[c,y,abM] at hi
      push_cast;exact hi
   .rw[aa7 (by omega)] at hi
    simp only[k7] at hi
    simp(disch:=omega)only[↓wr,seval,wq,h1,d]
    simp[lq,hle,<-hi]
theorem P1 (g:af) (a:g.Ok):az Tryz.prog 104 [.agg (ag g)] (gb (lq g)):=az.val (eK g) (OQ g a)
def nD (g:af) (i:Int) (s:ByteArray):Bool:=gZ (gp s) && (Bg g s == i) && decide (nV g s < 0)
def tV (g:af):List ByteArray->Int->Bool
 | [],_=>true
 | s :: r,i=>nD g i s && tV g r (i+1)
def mn (g:af):Bool:=decide (1<=g.al.length) && decide (g.al.length<=16) && tV g g.al 0
theorem RB (g:af) (h:g.Ok) (H:View):aw Tryz.prog 105 [.agg (ag g)] H λr _=>r=gb (mn g):=by
 refine aw.of mixed ym ?_
 repeat' (first | ((first|apply aj.dec|apply aj.eq|apply aj.ne|apply aj.split)<;>intro)|(simp(disch:=omega)only[↓wr,seval,wq,s6,ag,encS]))
 .simp[mn,show ¬ 1<=g.al.length by omega]
 .simp[mn,show ¬ g.al.length<=16 by omega]
 .have hle:g.al.length<=16:=by omega
  refine ba.intro (λk T _=>∃ i:Nat,i+k=g.al.length/\tV g (g.al.drop i) i=tV g g.al 0/\T 1=.aL (ag g) 0/\T 3=gi i) g.al.length ?_ ?_
  .exact⟨0,by omega,rfl,rfl,rfl⟩
  .rintro k T H' ⟨i,hk,hi,h1,c⟩
   simp(disch:=omega)only[↓wr,seval,wq,pC,h1,c,ag,encS]
   apply aj.dec<;>intro j
   .have b:g.al[i]?=some (g.al[i]'(by omega)):=aaB (by omega)
    rw[fq (show i < g.al.length by omega)] at hi
    generalize g.al[i]'(by omega)=t at b hi
    simp only[tV] at hi
    have a:nD g i t=false->gb false=gb (mn g):=λe=>by rw[e,ab2] at hi;simp[mn,<-hi]
    simp(disch:=omega)only[↓wr,seval,wq,h1,c,ag,encS,aaE,b,aaH]
    refine ax.pure (Hv t) ?_
    repeat' (first | ((first|apply aj.dec|apply aj.eq|apply aj.ne|apply aj.split)<;>intro)|(simp(disch:=omega)only[↓wr,seval,wq,h1,c,ag,encS,aaE,b,aaH]))
    all_goals try (refine a ?_;simp[nD, *];done)
    rename_i d
    refine ax.pure (UU g h t) ?_
    repeat' (first | ((first|apply aj.dec|apply aj.eq|apply aj.ne|apply aj.split)<;>intro)|(simp(disch:=omega)only[↓wr,seval,wq,h1,c,ag,encS,aaE,b,aaH]))
    all_goals try (refine a ?_;simp[nD, *];done)
    rename_i f
    refine ax.pure (G5 g h t) ?_
    repeat' (first | ((first|apply aj.dec|apply aj.eq|apply aj.ne|apply aj.split)<;>intro)|(simp(disch:=omega)only[↓wr,seval,wq,h1,c,ag,encS]))
    all_goals try (refine a ?_;simp[nD, *];done)
    rename_i l
    refine⟨k - 1,by omega,i+1,by omega,?_,by first | rfl | exact⟨rfl,rfl⟩ | exact⟨rfl,rfl,rfl⟩⟩
    have:nD g i t=true:=by simp[nD,d,f,show nV g t < 0 by omega]
    rw[this,abM] at hi
    push_cast;exact hi
   .rw[aa7 (by omega)] at hi
    simp only[tV] at hi
    simp(disch:=omega)only[↓wr,seval,wq,h1,c]
    simp[mn,hle,show 1<=g.al.length by omega,<-hi]
theorem Uj (g:af) (a:g.Ok):az Tryz.prog 105 [.agg (ag g)] (gb (mn g)):=az.val (eK g) (RB g a)
def ot (g:af) (prec s:Int):Bool:=dL g s && !(decide (0<=s) && prec == -1)
def js (g:af) (r:aX):Bool:=decide (r.right.length<=6) && decide (-1<=r.prec) && decide (r.prec < g.ai.length) && r.right.all (ot g r.prec)
theorem JL (g:af) (r:aX):∀ v∈[V.agg (ag g),V.agg (bg r)],Tree v:=by
 intro v a;simp at a
 rcases a with rfl | rfl
 .exact bL _ (cd g)
 .exact bL _ (ja r)
theorem Sc (g:af) (r:aX) (hr:aK r.right/\∀ x∈r.right,bM x) (H:View):aw Tryz.prog 106 [.agg (ag g),.agg (bg r)] H λv _=>v=gb (js g r):=by
 refine aw.of mixed xQ ?_
 repeat' (first | ((first|apply aj.dec|apply aj.eq|apply aj.ne|apply aj.split)<;>intro)|(simp(disch:=omega)only[↓wr,seval,wq,tn,ag,encS,bg,encI]))
 .simp[js,show ¬ r.right.length<=6 by omega]
 .simp[js,show ¬ -1<=r.prec by omega]
 .simp[js,show ¬ r.prec < g.ai.length by omega]
 .have hle:r.right.length<=6:=by omega
  have j : -1<=r.prec:=by omega
  have l:r.prec < g.ai.length:=by omega
  refine ba.intro (λk T _=>∃ i:Nat,i+k=r.right.length/\(r.right.drop i).all (ot g r.prec)=r.right.all (ot g r.prec)/\T 2=.aL (ag g) 0/\T 3=.aL (bg r) 0/\T 5=gi i) r.right.length ?_ ?_
  .exact⟨0,by omega,rfl,rfl,rfl,rfl⟩
  .rintro k T H' ⟨i,hk,hi,d,f,h⟩
   simp(disch:=omega)only[↓wr,seval,wq,qq,d,f,h,bg,encI]
   apply aj.dec<;>intro o
   .have b:r.right[i]?=some (r.right[i]'(by omega)):=aaB (by omega)
    rw[fq (show i < r.right.length by omega)] at hi
    have a:r.right[i]'(by omega)∈r.right:=aaL _
    generalize r.right[i]'(by omega)=t at b hi a
    have m:=hr.2 t a
    simp only[abQ] at hi
    have c:ot g r.prec t=false->gb false=gb (js g r):=λe=>by rw[e,ab2] at hi;simp only[js,<-hi,acy]
    have n:ot g r.prec t=true->(r.right.drop (i+1)).all (ot g r.prec)=r.right.all (ot g r.prec):=λe=>by rw[e,abM] at hi;exact hi
    simp(disch:=omega)only[↓wr,seval,wq,d,f,h,ag,encS,bg,encI,aaE,b,aaH]
    refine ax.pure (RY g t m) ?_
    repeat' (first | ((first|apply aj.dec|apply aj.eq|apply aj.ne|apply aj.split)<;>intro)|(simp(disch:=omega)only[↓wr,seval,wq,d,f,h,ag,encS,bg,encI,aaE,b,aaH]))
    all_goals first
     | (refine c ?_;simp[ot, *];done)
     | (refine⟨k - 1,by omega,i+1,by omega,n (by simp[ot, *];done),by first | rfl | exact⟨rfl,rfl⟩ | exact⟨rfl,rfl,rfl⟩⟩)
     | skip
   .rw[aa7 (by omega)] at hi
    simp only[List.all_nil] at hi
    simp(disch:=omega)only[↓wr,seval,wq,d,f,h]
    simp only[js,hle,j,l,decide_true,abM,<-hi]
theorem Rc (g:af) (r:aX) (hr:aK r.right/\∀ x∈r.right,bM x):az Tryz.prog 106 [.agg (ag g),.agg (bg r)] (gb (js g r)):=az.val (JL g r) (Sc g r hr)
def iE (g:af):List aX->Int->Bool
 | [],top=>top == (g.al.length:Int) - 1
 | r :: l,top=>decide (0<=r.left) && decide (r.left<=top+1) && js g r && iE g l (if r.left > top then r.left else top)
def bp (g:af):Bool :=
 lq g && mn g && decide (1<=g.rules.length) && decide (g.rules.length<=40) && decide (0<=g.start) && decide (g.start < g.al.length) && iE g g.rules (-1)
theorem O6 (g:af) (h:g.Ok) (H:View):aw Tryz.prog 50 [.agg (ag g)] H λr _=>r=gb (bp g):=by
 refine aw.of mixed wV ?_
 have o:=h.al
 unfold aK at o
 simp(disch:=omega)only[↓wr,seval,wq,qS,ag,encS]
 refine ax.pure (P1 g h) ?_
 repeat' (first | ((first|apply aj.dec|apply aj.eq|apply aj.ne|apply aj.split)<;>intro)|(simp(disch:=omega)only[↓wr,seval,wq,ag,encS]))
 .rename_i h1
  refine ax.pure (Uj g h) ?_
  repeat' (first | ((first|apply aj.dec|apply aj.eq|apply aj.ne|apply aj.split)<;>intro)|(simp(disch:=omega)only[↓wr,seval,wq,ag,encS]))
  all_goals try (simp[bp, *];done)
  all_goals try (simp[bp];omega)
  rename_i p y z A B
  have hle:g.rules.length<=40:=by omega
  have a:∀ b,iE g g.rules (-1)=b->gb b=gb (bp g):=λb e=>by
   simp[bp,h1,p,show 1<=g.rules.length by omega,hle,show 0<=g.start by omega,show g.start < g.al.length by omega,e]
  refine ba.intro (λk T _=>∃ (i:Nat) (w:Int),i+k=g.rules.length/\-1<=w/\w < i/\iE g (g.rules.drop i) w=iE g g.rules (-1)/\T 1=.aL (ag g) 0/\T 3=gi w/\T 4=gi i) g.rules.length ?_ ?_
  .exact⟨0,-1,by omega,by omega,by omega,rfl,rfl,rfl,rfl⟩
  .rintro k T H' ⟨i,w,hk,q,s,hi,f1,f3,f4⟩
   simp(disch:=omega)only[↓wr,seval,wq,py,f1,f3,f4,ag]
   apply aj.dec<;>intro u
   .have d:g.rules[i]?=some (g.rules[i]'(by omega)):=aaB (by omega)
    rw[fq (show i < g.rules.length by omega)] at hi
    have c:g.rules[i]'(by omega)∈g.rules:=aaL _
    generalize g.rules[i]'(by omega)=t at d hi c
    obtain⟨⟨v,x⟩,hp,j,l⟩:=h.au t c
    simp only[iE] at hi
    simp(disch:=omega)only[↓wr,seval,wq,f1,f3,f4,ag,encS,bg,encI,aaE,d,aaH]
    intro m hm
    try simp(disch:=omega)only[↓wr,seval,wq,f1,f3,f4]
    repeat' (first | ((first|apply aj.dec|apply aj.eq|apply aj.ne|apply aj.split)<;>intro)|(simp(disch:=omega)only[↓wr,seval,wq,f1,f3,f4,ag,encS,bg,encI]))
    all_goals try (refine a _ ?_;simp only[<-hi];simp;omega)
    rename_i C D
    refine ax.pure (Rc g t ⟨j,l⟩) ?_
    repeat' (first | ((first|apply aj.dec|apply aj.eq|apply aj.ne|apply aj.split)<;>intro)|(simp(disch:=omega)only[↓wr,seval,wq,f1,f3,f4,ag,encS,bg,encI]))
    all_goals simp only[show 0<=t.left by omega,show t.left<=w+1 by omega,decide_true,abM] at hi
    .rename_i f n
     rw[f,abM,aaF n] at hi
     exact⟨k - 1,by omega,i+1,_,by omega,by omega,by push_cast;omega,hi,by first | rfl | exact⟨rfl,rfl⟩ | exact⟨rfl,rfl,rfl⟩⟩
    .rename_i f n
     rw[f,abM,aaD n] at hi
     exact⟨k - 1,by omega,i+1,_,by omega,by omega,by push_cast;omega,hi,by first | rfl | exact⟨rfl,rfl⟩ | exact⟨rfl,rfl,rfl⟩⟩
    .rename_i f
     rw[f,ab2] at hi
     exact a _ hi.symm
   .rw[aa7 (by omega)] at hi
    simp only[iE] at hi
    simp(disch:=omega)only[↓wr,seval,wq,f1,f3,f4,ag,encS]
    exact a _ hi.symm
 .rename_i h1;simp[bp,h1]
theorem iO (g:af) (a:g.Ok):az Tryz.prog 50 [.agg (ag g)] (gb (bp g)):=az.val (eK g) (O6 g a)
inductive c7 (α:Type) where
 | nil
 | node (v:α) (l r:c7 α)
noncomputable def c7.get {α:Type} (z:α) (t:c7 α):Nat->α :=
 c7.rec (motive:=λ_=>Nat->α) (λ_=>z) (λv _ _ gl gr i=>Bool.rec (Bool.rec (gr (i / 2 - 1)) (gl (i / 2)) (Nat.beq (i % 2) 1)) v (Nat.beq i 0)) t
theorem c7.get_nil {α:Type} (z:α) (i:Nat):c7.get z .nil i=z:=rfl
theorem c7.V3 {α:Type} (z v:α) (l r:c7 α) (i:Nat):c7.get z (.node v l r) i=match Nat.beq i 0 with
  | true=>v
  | false=>match Nat.beq (i % 2) 1 with
   | true=>c7.get z l (i / 2)
   | false=>c7.get z r (i / 2 - 1):=by
 change (Bool.rec (motive:=λ_=>α) _ _ _:α)=_
 cases Nat.beq i 0 with
 | true=>rfl
 | false=>cases Nat.beq (i % 2) 1 <;> rfl
def c7.val {α:Type} (z:α):c7 α->α
 | .nil=>z
 | .node v _ _=>v
def c7.left {α:Type} : c7 α->c7 α
 | .nil=>.nil
 | .node _ l _=>l
def c7.right {α:Type} : c7 α->c7 α
 | .nil=>.nil
 | .node _ _ r=>r
noncomputable def c7.put {α:Type} (z:α) (x:α) (d:Nat):c7 α->Nat->c7 α :=
 Nat.rec (motive:=λ_=>c7 α->Nat->c7 α) (λt _=>t) (λ_ pd t i =>
  Bool.rec (Bool.rec (.node (t.val z) t.left (pd t.right (i / 2 - 1))) (.node (t.val z) (pd t.left (i / 2)) t.right) (Nat.beq (i % 2) 1)) (.node x t.left t.right) (Nat.beq i 0)) d
theorem c7.U1 {α:Type} (z x:α) (d:Nat) (t:c7 α) (i:Nat):c7.put z x (d+1) t i=match Nat.beq i 0 with
  | true=>.node x t.left t.right
  | false=>match Nat.beq (i % 2) 1 with
   | true=>.node (t.val z) (c7.put z x d t.left (i / 2)) t.right
   | false=>.node (t.val z) t.left (c7.put z x d t.right (i / 2 - 1)):=by
 change (Bool.rec (motive:=λ_=>c7 α) _ _ _:c7 α)=_
 cases Nat.beq i 0 with
 | true=>rfl
 | false=>cases Nat.beq (i % 2) 1 <;> rfl
theorem c7.oW {α:Type} (z:α) (t:c7 α) (j:Nat):t.get z j=if j=0 then t.val z else if j % 2=1 then t.left.get z (j / 2) else t.right.get z (j / 2 - 1):=by
 cases t with
 | nil=>simp[c7.get_nil,c7.val,c7.left,c7.right]
 | node v l r =>
  simp only[c7.V3,c7.val,c7.left,c7.right]
  by_cases h:j=0
  .subst h;rfl
  .have:Nat.beq j 0=false:=by cases e:Nat.beq j 0 with | true=>exact absurd (acz e) h | false=>rfl
   rw[this,aaD h]
   simp only
   by_cases a:j % 2=1
   .have:Nat.beq (j % 2) 1=true:=by rw[a];rfl
    rw[this,aaF a]
   .have:Nat.beq (j % 2) 1=false:=by cases e:Nat.beq (j % 2) 1 with | true=>exact absurd (acz e) a | false=>rfl
    rw[this,aaD a]
theorem c7.oY {α:Type} (z x:α):∀ (d:Nat) (t:c7 α) (i j:Nat),i+1 < 2 ^ d->(c7.put z x d t i).get z j=if j=i then x else t.get z j
 | 0,t,i,j,h=>by simp at h
 | d+1,t,i,j,h=>by
  rw[Nat.pow_succ] at h
  simp only[c7.U1]
  by_cases hi:i=0
  .subst hi
   have:Nat.beq 0 0=true:=rfl
   rw[this]
   simp only
   rw[c7.oW,c7.oW z t]
   simp only[c7.val,c7.left,c7.right]
   by_cases b:j=0
   .rw[aaF b,aaF b]
   .rw[aaD b,aaD b,aaD b]
  .have:Nat.beq i 0=false:=by cases e:Nat.beq i 0 with | true=>exact absurd (acz e) hi | false=>rfl
   rw[this]
   simp only
   by_cases c:i % 2=1
   .have:Nat.beq (i % 2) 1=true:=by rw[c];rfl
    rw[this]
    simp only
    rw[c7.oW,c7.oW z t]
    simp only[c7.val,c7.left,c7.right]
    by_cases b:j=0
    .subst b;rw[aaF rfl,aaD (λe=>hi e.symm),aaF rfl]
    .rw[aaD b,aaD b]
     by_cases a:j % 2=1
     .rw[aaF a,aaF a,c7.oY z x d _ _ _ (by omega)]
      by_cases e:j=i
      .subst e;simp
      .rw[aaD e,aaD (by omega)]
     .rw[aaD a,aaD a,aaD (λe=>a (by rw[e];exact c))]
   .have:Nat.beq (i % 2) 1=false:=by cases e:Nat.beq (i % 2) 1 with | true=>exact absurd (acz e) c | false=>rfl
    rw[this]
    simp only
    rw[c7.oW,c7.oW z t]
    simp only[c7.val,c7.left,c7.right]
    by_cases b:j=0
    .subst b;rw[aaF rfl,aaD (λe=>hi e.symm),aaF rfl]
    .rw[aaD b,aaD b]
     by_cases a:j % 2=1
     .rw[aaF a,aaF a,aaD (λe=>c (by rw[<-e];exact a))]
     .rw[aaD a,aaD a,c7.oY z x d _ _ _ (by omega)]
      by_cases e:j=i
      .subst e;simp
      .rw[aaD e,aaD (by omega)]
abbrev deep:Nat:=13
structure ES where
 L:c7 V
 H:c7 dG
 n:Nat
 w:List Nat
noncomputable def ES.T (s:ES):Env:=s.L.get .any
noncomputable def ES.V (s:ES):View:=s.H.get .dead
noncomputable def ES.put (s:ES) (d:Option Nat) (v:Gv.V):ES:=match d with
 | some t=>⟨s.L.put .any v deep t,s.H,s.n,s.w⟩
 | none=>s
theorem ES.Ww {s:ES} {d:Option Nat} {v:Gv.V} (h:∀ t,d=some t->t < 8000):(s.put d v).T=s.T.put d v:=by
 cases d with
 | none=>rfl
 | some t =>
  funext k
  have:=h t rfl
  simp only[ES.put,ES.T,Env.put]
  rw[c7.oY _ _ _ _ _ _ (by simp[deep];omega)]
noncomputable def J3 (v:V) (eff:bE) (rd:List Nat) (s:ES):Option (V × ES × Rec):=match eff with
 | .none=>some (v,s,⟨rd,[],false,s.n,s.n⟩)
 | .new o=>match Nat.ble s.n 8000 with
  | true=>some (v,⟨s.L,s.H.put .dead o deep s.n,s.n+1,s.w⟩,⟨rd,[],false,s.n,s.n+1⟩)
  | false=>none
 | .fU id o=>match Nat.ble id 8000 with
  | true=>some (v,⟨s.L,s.H.put .dead o deep id,s.n,id :: s.w⟩,⟨rd,[id],false,s.n,s.n⟩)
  | false=>none
 | .eJ id o=>match Nat.ble s.n 8000,Nat.ble id 8000 with
  | true,true=>some (v,⟨s.L,(s.H.put .dead .dead deep id).put .dead o deep s.n,s.n+1,id :: s.w⟩,⟨rd,[id],false,s.n,s.n+1⟩)
  | _,_=>none
noncomputable def Zw (x:SX) (_:Program) (T:Env) (_:View) (_:Nat):Out:=some (x.at T,.none,[])
noncomputable def Zc (c a b:SX) (_:Program) (T:Env) (_:View) (_:Nat):Out:=match c.at T with
 | .val (.bool t)=>some (if t then a.at T else b.at T,.none,[])
 | _=>none
noncomputable def Y8 (sz:Option Nat) (a:SX) (_:Program) (T:Env) (H:View) (_:Nat):Out:=yQ sz (a.at T) H
noncomputable def Ys (sz:Nat) (a x:SX) (_:Program) (T:Env) (H:View) (_:Nat):Out:=EH sz (a.at T) (x.at T) H
noncomputable def YX (off:Nat) (x:SX) (_:Program) (T:Env) (_:View) (_:Nat):Out:=Ch off (x.at T)
noncomputable def Zy (sz:Nat) (x i:SX) (_:Program) (T:Env) (_:View) (_:Nat):Out:=Gt sz (x.at T) (i.at T)
noncomputable def Zx (x:SX) (_:Program) (T:Env) (_:View) (_:Nat):Out:=(cT (x.at T)).map λn=>(gG n,.none,[])
noncomputable def Yv (op:BinOp) (x y:SX) (_:Program) (T:Env) (_:View) (_:Nat):Out:=BW op (x.at T) (y.at T)
noncomputable def Z6 (op:BinOp) (x y:SX) (_:Program) (T:Env) (_:View) (_:Nat):Out:=DB op (x.at T) (y.at T)
noncomputable def Zu (x:SX) (_:Program) (T:Env) (_:View) (_:Nat):Out:=match x.at T with
 | .val (.bool t)=>some (.val (.bool (!t)),.none,[])
 | _=>none
noncomputable def Zv (i:Nat) (x:SX) (_:Program) (T:Env) (_:View) (_:Nat):Out:=match x.at T with
 | .bf vs=>if i < vs.length then some (vs.getD i .any,.none,[]) else none
 | _=>none
noncomputable def Y2 (x:SX) (_:Program) (T:Env) (_:View) (_:Nat):Out:=match x.at T with
 | .ptr id i j=>some (.ptr id i j,.none,[])
 | .aL e j=>some (.aL e j,.none,[])
 | .fn f a b=>some (.fn f a b,.none,[])
 | _=>none
noncomputable def eI (s:SI):Program->Env->View->Nat->Out:=match s with
 | .eJ x=>Zw x
 | .pick c a b=>Zc c a b
 | .load sz a=>Y8 sz a
 | .store sz a x=>Ys sz a x
 | .addr o x=>YX o x
 | .idx sz x i=>Zy sz x i
 | .len x=>Zx x
 | .arith op x y=>Yv op x y
 | .Ae op x y=>Z6 op x y
 | .not x=>Zu x
 | .ext i x=>Zv i x
 | .Dn x=>Y2 x
 | s=>λP T H n=>sI P s T H n
theorem PQ (s:SI) (P:Program) (T:Env) (H:View) (n:Nat):eI s P T H n=sI P s T H n:=by
 cases s <;> rfl
abbrev jo:=FuncId->List V->ES->Option (V × ES)
noncomputable def R6 (P:Program) (s:SI) (e:ES):Option (V × ES × Rec):=match eI s P e.T e.V e.n with
 | some (v,eff,rd)=>J3 v eff rd e
 | none=>none
noncomputable def Qw (call:jo) (f:SX) (args:List SX) (e:ES):Option (V × ES × Rec):=match f.at e.T with
 | .fn g first cap=>match call g (first ++ args.map (SX.at e.T) ++ cap) e with
  | some (v,e')=>some (v,⟨e.L,e'.H,e'.n,e'.w ++ e.w⟩,⟨[],e'.w,true,e.n,e'.n⟩)
  | none=>none
 | _=>none
noncomputable def eB (P:Program) (call:jo) (b:SB):ES->Option (V × ES × Rec):=match b with
 | .op s=>R6 P s
 | .call f args=>Qw call f args
 | .vQ ..=>λ_=>none
noncomputable def NH (P:Program) (call:jo):List (Option Nat × SB)->List Rec->ES->Option (ES × List Rec)
 | [],a,e=>some (e,a)
 | (d,b) :: r,a,e=>match eB P call b e with
  | some (v,e',c)=>NH P call r (a ++ [c]) (e'.put d v)
  | none=>none
noncomputable def WE (e:ES):Rec:=⟨[],[],false,e.n,e.n⟩
noncomputable def ze:List (Option Nat × SB)->List Rec->ES->ES × List Rec
 | [],a,e=>(e,a)
 | (d,_) :: r,a,e=>ze r (a ++ [WE e]) (e.put d (.bf []))
noncomputable def TI (P:Program) (call:jo) (ops:List (Option Nat × SB)) (want:Bool) (v:V) (a:List Rec) (e:ES):Option (ES × List Rec):=match v with
 | .val (.bool b)=>match xor b want with
  | true=>some (ze ops a e)
  | false=>NH P call ops a e
 | .bf []=>some (ze ops a e)
 | _=>none
noncomputable def eG (P:Program) (call:jo) (g:SG) (a:List Rec) (e:ES):Option (ES × List Rec):=match g.guard with
 | none=>NH P call g.ops a e
 | some (d,want)=>TI P call g.ops want (e.T d) a e
noncomputable def Qy (P:Program) (call:jo):List SG->List Rec->ES->Option (ES × List Rec)
 | [],a,e=>some (e,a)
 | g :: r,a,e=>match eG P call g a e with
  | some (e',a')=>Qy P call r a' e'
  | none=>none
inductive DC where
 | skip
 | region (ps:List (Nat × Nat)) (gs:List SG)
 | seq (x y:DC)
 | cond (c:SX) (x y:DC)
 | block (id:Nat) (c:DC)
 | loop (c:DC)
 | exit (id:Nat)
 | ret
 deriving Inhabited
def Tt (recs:List Rec) (ps:List (Nat × Nat)):Bool:=ps.all λ(i,k)=>match recs[i]?,recs[k]? with
 | some a,some b=>Gj a b
 | _,_=>false
abbrev ER:=Option (Exit × ES)
abbrev As:=DC->ES->ER
noncomputable def TN:ES->ER:=λe=>some (.normal,e)
noncomputable def Oq (P:Program) (call:jo) (ps:List (Nat × Nat)) (gs:List SG) (e:ES):ER:=match Qy P call gs [] e with
 | some (e',recs)=>match Tt recs ps with
  | true=>some (.normal,e')
  | false=>none
 | none=>none
noncomputable def X1 (run:As) (x y:DC) (e:ES):ER:=match run x e with
 | some (.normal,e')=>run y e'
 | r=>r
noncomputable def Wf (run:As) (c:SX) (x y:DC) (e:ES):ER:=match c.at e.T with
 | .val (.bool true)=>run x e
 | .val (.bool false)=>run y e
 | _=>none
noncomputable def Sw (run:As) (id:Nat) (c:DC) (e:ES):ER:=match run c e with
 | some (r,e')=>some (sj id r,e')
 | none=>none
noncomputable def Wc (run:As) (c:DC) (e:ES):ER:=match run c e with
 | some (.normal,e')=>run (.loop c) e'
 | r=>r
noncomputable def nT (P:Program) (call:jo) (run:As) (c:DC):ES->ER:=match c with
 | .skip=>TN
 | .region ps gs=>Oq P call ps gs
 | .seq x y=>X1 run x y
 | .cond c x y=>Wf run c x y
 | .block id c=>Sw run id c
 | .loop c=>Wc run c
 | .exit id=>λe=>some (.exit id,e)
 | .ret=>λe=>some (.ret,e)
noncomputable def UW (r:SR) (e:ES):Option V:=match r with
 | .tmp t=>some (e.T t)
 | .cell t sz=>match e.T t with
  | .ptr id i j=>match e.V id with
   | .arr _ es=>if i < es.length then oc sz (es.getD i []) j else none
   | _=>none
  | .aL e j=>oc sz e j
  | _=>none
noncomputable def zl:List SR->ES->Option (List V)
 | [],_=>some []
 | r :: l,e=>match UW r e,zl l e with
  | some v,some vs=>some (v :: vs)
  | _,_=>none
noncomputable def px:List V->Nat->c7 V->c7 V
 | [],_,t=>t
 | v :: vs,i,t=>px vs (i+1) (t.put .any v deep i)
structure DF where
 code:DC
 res:List SR
 n:Nat
noncomputable def Yk (l:List SR) (r:ER):Option (V × ES):=match r with
 | some (.ret,e)=>(zl l e).map λvs=>(zO vs,e)
 | some (.normal,e)=>(zl l e).map λvs=>(zO vs,e)
 | _=>none
noncomputable def YK (m:Nat) (r:Option (V × ES)):Option (V × ES):=match r with
 | some (v,e)=>some (v,⟨e.L,e.H,e.n,e.w.filter λid=>Nat.blt id m⟩)
 | none=>none
noncomputable def Yb (run:As) (F:DF) (vs:List V) (e:ES):Option (V × ES):=match Nat.ble vs.length F.n,Nat.ble F.n 8000 with
 | true,true=>YK e.n (Yk F.res (run F.code ⟨px vs 0 .nil,e.H,e.n,[]⟩))
 | _,_=>none
abbrev A8:=FuncId->List V->View->Option V
noncomputable def Jg (P:Program) (tab:List (FuncId × DF)) (ext:A8) (run:As) (g:FuncId) (vs:List V) (e:ES):Option (V × ES):=match ext g vs e.V with
 | some t=>some (t,⟨e.L,e.H,e.n,[]⟩)
 | none=>match tab.find? (λp=>Nat.beq p.1 g) with
  | some (_,F)=>Yb run F vs e
  | none=>none
noncomputable def JW (P:Program) (tab:List (FuncId × DF)) (ext:A8):Nat->As
 | 0=>λ_ _=>none
 | k+1=>nT P (Jg P tab ext (JW P tab ext k)) (JW P tab ext k)
def E1 (all:List Oper) (ls:List Nat):List (Nat × Nat) :=
 let b:=gu all []
 (ls.zipIdx.map λ(x,i)=>(ls.zipIdx.filter λ(y,k)=>decide (i < k) && !(ordered b i k || x == 0 || y == 0 || (decide (x<=1) && decide (y<=1)))).map λ(_,k)=>(i,k)).flatten
def Ka (P:Program) (n:Nat) (fz:List Nat) (ops:List Oper) (draw:Bool):Option DC:=match eh P n ops ⟨fz,false⟩ ops with
 | none=>none
 | some l=>if !(group l).all vV then none else
  if draw then (if nJ ops then some (.region (E1 ops (l.map λs=>jU P false s.b)) (group l)) else none) else some (.region [] (group l))
def kh (P:Program) (n:Nat) (fz:List Nat):Code->Option DC
 | .skip=>some .skip
 | .region _ ops draw=>Ka P n fz ops.toList draw
 | .seq x y=>match kh P n fz x,kh P n fz y with
  | some a,some b=>some (.seq a b)
  | _,_=>none
 | .cond c x y=>match kh P n fz x,kh P n fz y with
  | some a,some b=>some (.cond (SX.of c) a b)
  | _,_=>none
 | .block id c=>(kh P n fz c).map (.block id)
 | .loop c=>(kh P n fz c).map .loop
 | .exit id=>some (.exit id)
 | .ret=>some .ret
 | _=>none
abbrev c_s (l:List (Option Nat × SB)):DC:=.region [] [⟨none,l⟩]
def Lg (P:Program) (f:FuncId) (fz:List Nat):Option DF:=match P.funcs[f]? with
 | some fn=>match fn.body with
  | some c=>match kh P fn.ntmps fz c,gz P fn.results.toList,ed P f with
   | some sc,some rs,true=>some ⟨sc,rs,fn.ntmps⟩
   | _,_,_=>none
  | none=>none
 | none=>none
end Gv

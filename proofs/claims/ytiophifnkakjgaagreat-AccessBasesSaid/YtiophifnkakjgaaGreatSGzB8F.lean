/-
  Part 6 of the proof: what the machine does and what the functions answer.
  Conditions: those that each lemma names.
-/
import Derived.Test.YtiophifnkakjgaaGreatSGzB8E
set_option linter.unusedSimpArgs false
set_option linter.unusedVariables false
set_option maxRecDepth 100000
set_option maxHeartbeats 20000000
namespace Gv
open Go Go.Proofs
structure Term where
 name:ByteArray
 level:Int
 assoc:Int
structure bb where
 left:Int
 right:List Int
 prec:Int
structure ag where
 au:List Term
 aj:List ByteArray
 rules:List bb
 start:Int
instance:Inhabited Term:=⟨⟨.empty,0,0⟩⟩
instance:Inhabited bb:=⟨⟨0,[],0⟩⟩
def cP (t:Term):List V:=[gs t.name,gi t.level,gi t.assoc]
def aI (r:bb):List V:=[gi r.left,encI r.right,gi r.prec]
def encS (l:List ByteArray):V:=.aQ (l.map λs=>[gs s])
def af (g:ag):List V:=[.aQ (g.au.map cP),encS g.aj,.aQ (g.rules.map aI),gi g.start]
theorem eM {α:Type} (l:List α) (f:α->List V) (h:∀ x∈l,∀ v∈f x,Tree v):Tree (.aQ (l.map f)):=by
 refine .aQ _ λi j hi a=>?_
 simp only[UB] at hi
 have e:(l.map f).getD i []=f l[i]:=by simp[Uu,hi]
 rw[e] at a ⊢
 have b:(f l[i]).getD j .any=(f l[i])[j]:=by simp[Uu,a]
 rw[b]
 exact h _ (UC _) _ (UC _)
theorem bZ (cs:List V) (h:∀ v∈cs,Tree v):Tree (.agg cs):=by
 refine .agg _ λi hi=>?_
 have a:cs.getD i .any=cs[i]:=by simp[Uu,hi]
 rw[a];exact h _ (UC _)
theorem xI (l:List ByteArray):Tree (encS l):=eM _ _ λx _ v a=>by simp at a;subst a;exact .val _
theorem sU (t:Term):∀ v∈cP t,Tree v:=by intro v a;simp[cP] at a;rcases a with rfl | rfl | rfl <;> exact .val _
theorem fJ (r:bb):∀ v∈aI r,Tree v:=by
 intro v a;simp[aI] at a;rcases a with rfl | rfl | rfl
 .exact .val _
 .exact bQ _
 .exact .val _
theorem cz (g:ag):∀ v∈af g,Tree v:=by
 intro v a;simp[af] at a;rcases a with rfl | rfl | rfl | rfl
 .exact eM _ _ λx _=>sU x
 .exact xI _
 .exact eM _ _ λx _=>fJ x
 .exact .val _
def bO (x:Int):Prop:=-9223372036854775808<=x/\x<=9223372036854775807
structure ag.Ok (g:ag):Prop where
 au:aL g.au
 aj:aL g.aj
 rules:aL g.rules
 start:bO g.start
 term:∀ t∈g.au,bO t.level/\bO t.assoc
 ax:∀ r∈g.rules,bO r.left/\bO r.prec/\aL r.right/\∀ x∈r.right,bO x
def dI (g:ag) (s:Int):Bool:=if 0<=s then decide (s < g.au.length) else decide (-1 - s < g.aj.length)
def rq:SF:=⟨ae [ab [cw 2 0,bq 4 false],ae [ab [aa 5 1,aG 6 .geq 5 0],ba 6 (ae [ab [aa 7 1,al 8 0 2,ak 9 8,aM 10 9,aR 11 .lss 7 10,aa 4 11],.ret])],ab [aa 12 1,((some 13),.op (.arith .sub (.val (.val (.int .i64 (-1)))) (.tmp 12))),al 14 1 2,ak 15 14,aM 16 15,aR 17 .lss 13 16,aa 4 17],.ret],
 [.tmp 4],18⟩
theorem vZ:aH Tryz.prog 74 [2]=some rq:=by kernel_rfl
theorem Sc (g:ag) (s:Int) (a:bO s) (H:View):av Tryz.prog 74 [.agg (af g),gi s] H λr H'=>r=gb (dI g s)/\H'=H:=by
 refine av.of mixed vZ ?_
 obtain⟨h1,b⟩:=a
 simp(disch:=omega)only[↓wr,seval,wq,rq,af,encS]
 apply ai.dec<;>intro h
 .simp(disch:=omega)only[↓wr,seval,wq]
  simp[dI,show (0:Int)<=s from h]
 .simp(disch:=omega)only[↓wr,seval,wq]
  simp[dI,show ¬ (0:Int)<=s from h]
theorem Oi (g:ag) (s:Int) (b:bO s):az Tryz.prog 74 [.agg (af g),gi s] (gb (dI g s)) :=
 az.of (by
  intro v a;simp at a
  rcases a with rfl | rfl
  .exact bZ _ (cz g)
  .exact .val _) ((Sc g s b _).mono λr H' h c _=>by rw[h.1];exact .tree _ (.val _))
def kF (g:ag):Bool:=decide (40 < g.au.length) || decide (40 < g.aj.length) || decide (60 < g.rules.length) || g.rules.any λr=>decide (20 < r.right.length)
def mN:SC :=
 ae [ae [ab [aa 20 3,al 21 2 1,ak 22 21,aM 23 22,aR 24 .lss 20 23],bX 24 (.exit 0)],.block 1 (ae [ab [al 27 2 1,ak 28 27,aa 29 3,aO 30 3 28 29,al 31 1 30,ak 32 31,aM 33 32,aG 34 .gtr 33 20],ba 34 (ae [ab [bq 2 true],.ret])]),ab [aa 25 3,aG 26 .add 25 1,aa 3 26]]
def pc:SF:=⟨ae [ab [cw 1 0,bq 2 false],ae [.region false [⟨none,[al 4 0 1,ak 5 4,aM 6 5,aG 7 .gtr 6 40,aa 8 7]⟩,⟨(some (8,false)),[al 9 1 1,ak 10 9,aM 11 10,aG 12 .gtr 11 40]⟩,⟨none,[cM 13 8 12,aa 14 13]⟩,⟨(some (14,false)),[al 15 2 1,ak 16 15,aM 17 16,aG 18 .gtr 17 60]⟩,⟨none,[cM 19 14 18]⟩],ba 19 (ae [ab [bq 2 true],.ret])],ae [ab [aN 3 0],bY 0 mN],ab [bq 2 false],.ret],
 [.tmp 2],35⟩
theorem ug:aH Tryz.prog 14 [1]=some pc:=by kernel_rfl
theorem PO (g:ag) (H:View):av Tryz.prog 14 [.agg (af g)] H λr H'=>r=gb (kF g)/\H'=H:=by
 refine av.of mixed ug ?_
 simp(disch:=omega)only[↓wr,seval,wq,pc,af,encS]
 apply ai.dec<;>intro h1
 .simp(disch:=omega)only[↓wr,seval,wq]
  simp[kF,show 40 < g.au.length by omega]
 .simp(disch:=omega)only[↓wr,seval,wq]
  apply ai.dec<;>intro d
  .simp(disch:=omega)only[↓wr,seval,wq]
   simp[kF,show 40 < g.aj.length by omega]
  .simp(disch:=omega)only[↓wr,seval,wq]
   apply ai.dec<;>intro f
   .simp(disch:=omega)only[↓wr,seval,wq]
    simp[kF,show 60 < g.rules.length by omega]
   .simp(disch:=omega)only[↓wr,seval,wq]
    refine aV.intro (λk T H'=>∃ i:Nat,i+k=g.rules.length/\(∀ r∈g.rules.take i,¬ 20 < r.right.length)/\T 1=.aJ (af g) 0/\T 3=gi i/\H'=H) g.rules.length ?_ ?_
    .exact⟨0,by omega,by simp,rfl,rfl,rfl⟩
    .rintro k T H' ⟨i,hk,hi,a,b,rfl⟩
     simp(disch:=omega)only[↓wr,seval,wq,mN,a,b,af]
     apply ai.dec<;>intro h
     .have c:g.rules[i]?=some (g.rules[i]'(by omega)):=Uv (by omega)
      simp(disch:=omega)only[↓wr,seval,wq,a,b,af,aI,encI,Uy,c,UH]
      apply ai.dec<;>intro j
      .simp(disch:=omega)only[↓wr,seval,wq]
       have:g.rules.any (λr=>decide (20 < r.right.length))=true:=by
        simp only[VV,UN]
        exact⟨g.rules[i]'(by omega),UC _,by omega⟩
       simp[kF,this]
      .simp(disch:=omega)only[↓wr,seval,wq,a,b]
       refine⟨k - 1,by omega,i+1,by omega,?_,rfl,rfl⟩
       intro r hr
       rw[UW,c] at hr
       simp only[Option.toList_some,UR,Vq] at hr
       rcases hr with hr | rfl
       .exact hi r hr
       .omega
     .simp(disch:=omega)only[↓wr,seval,wq,a,b]
      have e:i=g.rules.length:=by omega
      rw[UK (by omega)] at hi
      have:g.rules.any (λr=>decide (20 < r.right.length))=false:=by
       simp only[List.any_eq_false,UN];exact hi
      simp only[kF,this]
      simp;omega
def ga (l:List Int) (is:List Bool) (au:Bool):Bool:=l.all λs=>if 0<=s then au else is.getD (-1 - s).toNat false
def pv:SC :=
 ae [ae [ab [aa 8 7,aa 9 0,aM 10 9,aR 11 .lss 8 10],bX 11 (.exit 0)],.block 1 (ae [.region false [⟨none,[aa 14 0,aa 15 7,aO 16 1 14 15,ak 17 16,aG 18 .geq 17 0,aa 19 18]⟩,⟨(some (19,true)),[aa 20 2,c7 21 20]⟩,⟨none,[eu 22 19 21,aa 23 22]⟩,⟨(some (23,false)),[aa 24 0,aa 25 7,aO 26 1 24 25,ak 27 26,aG 28 .lss 27 0,aa 29 28]⟩,⟨(some (29,true)),[aa 30 1,aa 31 0,aa 32 7,aO 33 1 31 32,ak 34 33,((some 35),.op (.arith .sub (.val (.val (.int .i64 (-1)))) (.tmp 34))),aO 36 1 30 35,ak 37 36,c7 38 37]⟩,⟨(some (23,false)),[eu 39 29 38]⟩,⟨none,[cM 40 23 39]⟩],ba 40 (ae [ab [bq 6 false],.ret])]),ab [aa 12 7,aG 13 .add 12 1,aa 7 13]]
def rj:SF:=⟨ae [ab [bq 6 false],ae [ab [aN 7 0],bY 0 pv],ab [bq 6 true],.ret],
 [.tmp 6],41⟩
theorem vA:aH Tryz.prog 95 []=some rj:=by kernel_rfl
theorem Sx (l:List Int) (is:List Bool) (t:Bool) (p:aL l) (q:∀ s∈l,bO s/\(s < 0->-1 - s < is.length)) (H:View) :
  av Tryz.prog 95 [encI l,cD is,gb t] H λr H'=>r=gb (ga l is t)/\H'=H:=by
 refine av.of mixed vA ?_
 unfold aL at p
 simp(disch:=omega)only[↓wr,seval,wq,rj]
 refine aV.intro (λk T H'=>∃ i:Nat,i+k=l.length/\ga (l.take i) is t=true/\T 0=encI l/\T 1=cD is/\T 2=gb t/\T 7=gi i/\H'=H) l.length ?_ ?_
 .exact⟨0,by omega,by simp[ga],rfl,rfl,rfl,rfl,rfl⟩
 .rintro k T H' ⟨i,hk,hi,d,h1,f,g,rfl⟩
  simp(disch:=omega)only[↓wr,seval,wq,pv,d,h1,f,g,encI]
  apply ai.dec<;>intro u
  .have h:l[i]?=some (l[i]'(by omega)):=Uv (by omega)
   have hm:l[i]'(by omega)∈l:=UC _
   generalize l[i]'(by omega)=s at h hm
   obtain⟨⟨v,w⟩,x⟩:=q s hm
   have a:ga (l.take (i+1)) is t=(if 0<=s then t else is.getD (-1 - s).toNat false):=by
    rw[UW,h]
    simp only[ga,Option.toList_some,List.all_append,VL,List.all_nil,Bool.and_true] at hi ⊢
    rw[hi,Vt]
   have c:(if 0<=s then t else is.getD (-1 - s).toNat false)=false->ga l is t=false:=by
    intro j
    simp only[ga,List.all_eq_false]
    exact⟨s,hm,by simpa using j⟩
   simp(disch:=omega)only[↓wr,seval,wq,d,h1,f,g,encI,Uy,h,UH]
   apply ai.dec<;>intro n
   .rw[Uz (show 0<=s from n)] at a c
    cases t with
    | true =>
     simp(disch:=omega)only[↓wr,seval,wq,d,h1,f,g,encI,Uy,h,UH]
     refine ai.dec (λm=>absurd m (by omega)) (λ_=>?_)
     simp(disch:=omega)only[↓wr,seval,wq,d,h1,f,g,encI,cD,Uy,h,UH]
     exact⟨k - 1,by omega,i+1,by omega,a,rfl⟩
    | false =>
     simp(disch:=omega)only[↓wr,seval,wq,d,h1,f,g,encI,Uy,h,UH]
     rw[c rfl]
   .rw[Ux (show ¬ 0<=s from n)] at a c
    simp(disch:=omega)only[↓wr,seval,wq,d,h1,f,g,encI,Uy,h,UH]
    refine ai.dec (λm=>?_) (λm=>absurd m (by omega))
    have j:is[(-1 - s).toNat]?=some (is[(-1 - s).toNat]'(by omega)):=Uv (by omega)
    have o:is.getD (-1 - s).toNat false=is[(-1 - s).toNat]'(by omega):=by simp[Uu,j]
    rw[o] at a c
    generalize is[(-1 - s).toNat]'(by omega)=b at j a c
    simp(disch:=omega)only[↓wr,seval,wq,d,h1,f,g,encI,cD,Uy,h,j,UH]
    cases b with
    | true =>
     simp(disch:=omega)only[↓wr,seval,wq,d,h1,f,g,encI,cD,Uy,h,j,UH]
     exact⟨k - 1,by omega,i+1,by omega,a,rfl⟩
    | false =>
     simp(disch:=omega)only[↓wr,seval,wq,d,h1,f,g,encI,cD,Uy,h,j,UH]
     rw[c rfl]
  .simp(disch:=omega)only[↓wr,seval,wq,d,h1,f,g]
   have e:i=l.length:=by omega
   rw[UK (by omega)] at hi
   rw[hi]
abbrev gy (x:Int):V:=.val (.int .u8 x)
def vd (c:Int):Bool:=(decide (97<=c) && decide (c<=122)) || (decide (65<=c) && decide (c<=90)) || c == 95
def oF (c:Int):Bool:=vd c || (decide (48<=c) && decide (c<=57)) || c == 46
def px:SF:=⟨ae [ab [bq 2 false],.region false [⟨none,[aa 3 0,((some 4),.op (.arith .geq (.tmp 3) (.val (.val (.int .u8 97))))),aa 5 4]⟩,⟨(some (5,true)),[aa 6 0,((some 7),.op (.arith .leq (.tmp 6) (.val (.val (.int .u8 122)))))]⟩,⟨none,[eu 8 5 7,aa 9 8]⟩,⟨(some (9,false)),[aa 10 0,((some 11),.op (.arith .geq (.tmp 10) (.val (.val (.int .u8 65))))),aa 12 11]⟩,⟨(some (12,true)),[aa 13 0,((some 14),.op (.arith .leq (.tmp 13) (.val (.val (.int .u8 90)))))]⟩,⟨(some (9,false)),[eu 15 12 14]⟩,⟨none,[cM 16 9 15,aa 17 16]⟩,⟨(some (17,false)),[aa 18 0,((some 19),.op (.arith .eql (.tmp 18) (.val (.val (.int .u8 95)))))]⟩,⟨none,[cM 20 17 19,aa 2 20]⟩],.ret],
 [.tmp 2],21⟩
theorem uj:aH Tryz.prog 233 []=some px:=by kernel_rfl
def pf:SF:=⟨ae [ab [bq 2 false],.region false [⟨none,[aa 3 0,aX 4 233 [3],aa 5 4]⟩,⟨(some (5,false)),[aa 6 0,((some 7),.op (.arith .geq (.tmp 6) (.val (.val (.int .u8 48))))),aa 8 7]⟩,⟨(some (8,true)),[aa 9 0,((some 10),.op (.arith .leq (.tmp 9) (.val (.val (.int .u8 57)))))]⟩,⟨(some (5,false)),[eu 11 8 10]⟩,⟨none,[cM 12 5 11,aa 13 12]⟩,⟨(some (13,false)),[aa 14 0,((some 15),.op (.arith .eql (.tmp 14) (.val (.val (.int .u8 46)))))]⟩,⟨none,[cM 16 13 15,aa 2 16]⟩],.ret],
 [.tmp 2],17⟩
theorem tX:aH Tryz.prog 234 []=some pf:=by kernel_rfl
theorem Pb (c:Int) (H:View):av Tryz.prog 233 [gy c] H λr H'=>r=gb (vd c)/\H'=H:=by
 refine av.of mixed uj ?_
 repeat' (first | ((first|apply ai.dec|apply ai.eq|apply ai.ne|apply ai.split)<;>intro)|(simp(disch:=omega)only[↓wr,seval,wq,px]))
 all_goals (congr 2;simp only[vd];grind)
theorem G2 (c:Int):az Tryz.prog 233 [gy c] (gb (vd c)) :=
 az.of (by intro v a;simp at a;subst a;exact .val _) ((Pb c _).mono λr H' h b _=>by rw[h.1];exact .tree _ (.val _))
theorem PQ (c:Int) (H:View):av Tryz.prog 234 [gy c] H λr H'=>r=gb (oF c)/\H'=H:=by
 refine av.of mixed tX ?_
 repeat' (first | ((first|apply ai.dec|apply ai.eq|apply ai.ne|apply ai.split)<;>intro)|(simp(disch:=omega)only[↓wr,seval,wq,pf]))
 refine aw.pure (G2 c) ?_
 repeat' (first | ((first|apply ai.dec|apply ai.eq|apply ai.ne|apply ai.split)<;>intro)|(simp(disch:=omega)only[↓wr,seval,wq]))
 all_goals (congr 2;simp only[oF];grind)
theorem Pv (c:Int):az Tryz.prog 234 [gy c] (gb (oF c)) :=
 az.of (by intro v a;simp at a;subst a;exact .val _) ((PQ c _).mono λr H' h b _=>by rw[h.1];exact .tree _ (.val _))
def gI (l:List Int):Bool:=decide (0 < l.length) && decide (l.length<=20) && (match l with | c :: _=>vd c | []=>false) && l.all oF
def oN:SC :=
 ae [ae [ab [aa 18 3,aa 19 0,((some 20),.op (.pN (.tmp 19))),aR 21 .lss 18 20],bX 21 (.exit 0)],.block 1 (ae [ab [aa 24 0,aa 25 3,((some 26),.op (.im (.tmp 24) (.tmp 25))),aX 27 234 [26],c7 28 27],ba 28 (ae [ab [bq 2 false],.ret])]),ab [aa 22 3,aG 23 .add 22 1,aa 3 23]]
def qK:SF:=⟨ae [ab [bq 2 false],ae [.region false [⟨none,[aa 4 0,((some 5),.op (.pN (.tmp 4))),aG 6 .eql 5 0,aa 7 6]⟩,⟨(some (7,false)),[aa 8 0,((some 9),.op (.pN (.tmp 8))),aG 10 .gtr 9 20]⟩,⟨none,[cM 11 7 10,aa 12 11]⟩,⟨(some (12,false)),[aa 13 0,((some 14),.op (.im (.tmp 13) (.val (.val (.int .i64 0))))),aX 15 233 [14],c7 16 15]⟩,⟨none,[cM 17 12 16]⟩],ba 17 (ae [ab [bq 2 false],.ret])],ae [ab [aN 3 0],bY 0 oN],ab [bq 2 true],.ret],
 [.tmp 2],29⟩
theorem uB:aH Tryz.prog 172 []=some qK:=by kernel_rfl
theorem MI (s:ByteArray) (H:View):av Tryz.prog 172 [gs s] H λr H'=>r=gb (gI (fG s))/\H'=H:=by
 refine av.of mixed uB ?_
 repeat' (first | ((first|apply ai.dec|apply ai.eq|apply ai.ne|apply ai.split)<;>intro)|(simp(disch:=omega)only[↓wr,seval,wq,qK,eR]))
 .rename_i h
  congr 2;simp[gI,show (fG s).length=0 by omega]
 .rename_i h
  congr 2;simp[gI,show ¬ (fG s).length<=20 by omega]
 .rename_i h1 g
  cases a:fG s with
  | nil=>simp[a] at h1
  | cons c l =>
   repeat' (first | ((first|apply ai.dec|apply ai.eq|apply ai.ne|apply ai.split)<;>intro)|(simp(disch:=omega)only[↓wr,seval,wq,a,U1,eR]))
   refine aw.pure (G2 c) ?_
   repeat' (first | ((first|apply ai.dec|apply ai.eq|apply ai.ne|apply ai.split)<;>intro)|(simp(disch:=omega)only[↓wr,seval,wq,a,U1,eR]))
   .rename_i j
    refine aV.intro (λk T H'=>∃ i:Nat,i+k=(c :: l).length/\((c :: l).take i).all oF=true/\T 0=gs s/\T 3=gi i/\H'=H) (c :: l).length ?_ ?_
    .exact⟨0,by omega,by simp,rfl,rfl,rfl⟩
    .rintro k T H' ⟨i,hk,hi,b,e,rfl⟩
     rw[a] at h1 g
     simp(disch:=omega)only[↓wr,seval,wq,oN,b,e,eR,a]
     apply ai.dec<;>intro m
     .simp only[UE] at m hk g
      have f:(c :: l)[i]?=some ((c :: l)[i]'(by simp;omega)):=Uv (by simp;omega)
      have hm:(c :: l)[i]'(by simp;omega)∈c :: l:=UC _
      generalize (c :: l)[i]'(by simp;omega)=d at f hm
      simp(disch:=omega)only[↓wr,seval,wq,b,e,eR,a,f]
      refine aw.pure (Pv d) ?_
      repeat' (first | ((first|apply ai.dec|apply ai.eq|apply ai.ne|apply ai.split)<;>intro)|(simp(disch:=omega)only[↓wr,seval,wq,b,e,eR,a,f]))
      .rename_i n
       refine⟨k - 1,by omega,i+1,by omega,?_,rfl⟩
       rw[UW,f]
       simp only[Option.toList_some,List.all_append,hi,VL,n,List.all_nil,Bool.and_self]
      .rename_i n
       congr 2
       have:(c :: l).all oF=false:=by
        rw[List.all_eq_false];exact⟨d,hm,by simp[n]⟩
       simp only[gI,this,Bool.and_false]
     .simp(disch:=omega)only[↓wr,seval,wq,b,e]
      simp only[UE] at m hk g
      rw[UK (by simp;omega)] at hi
      congr 2
      simp only[gI,hi,UE]
      simp[j];omega
   .rename_i j
    congr 2;simp[gI,j]
def mD:List Int->Bool
 | [a,b,c]=>a == 39 && c == 39 && decide (32<=b) && decide (b<=126) && b != 39 && b != 92
 | [a,b,c,d]=>a == 39 && d == 39 && b == 92 && (c == 110 || c == 116 || c == 92 || c == 39)
 | _=>false
theorem O0 {l:List Int} (a:l.length≠3) (b:l.length≠4):mD l=false:=by
 match l,a,b with
 | [],_,_=>rfl
 | [_],_,_=>rfl
 | [_,_],_,_=>rfl
 | [_,_,_],a,_=>exact absurd rfl a
 | [_,_,_,_],_,b=>exact absurd rfl b
 | _ :: _ :: _ :: _ :: _ :: _,_,_=>rfl
theorem Tp {α:Type} {l:List α} (h:l.length=3):∃ a b c,l=[a,b,c]:=by
 match l,h with
 | [a,b,c],_=>exact⟨a,b,c,rfl⟩
theorem T4 {α:Type} {l:List α} (h:l.length=4):∃ a b c d,l=[a,b,c,d]:=by
 match l,h with
 | [a,b,c,d],_=>exact⟨a,b,c,d,rfl⟩
def mW:SF:=⟨ae [ab [bq 2 false],ae [ab [aa 3 0,((some 4),.op (.pN (.tmp 3))),aG 5 .eql 4 3],ba 5 (ae [.region false [⟨none,[aa 6 0,((some 7),.op (.im (.tmp 6) (.val (.val (.int .i64 0))))),((some 8),.op (.arith .eql (.tmp 7) (.val (.val (.int .u8 39))))),aa 9 8]⟩,⟨(some (9,true)),[aa 10 0,((some 11),.op (.im (.tmp 10) (.val (.val (.int .i64 2))))),((some 12),.op (.arith .eql (.tmp 11) (.val (.val (.int .u8 39)))))]⟩,⟨none,[eu 13 9 12,aa 14 13]⟩,⟨(some (14,true)),[aa 15 0,((some 16),.op (.im (.tmp 15) (.val (.val (.int .i64 1))))),((some 17),.op (.arith .geq (.tmp 16) (.val (.val (.int .u8 32)))))]⟩,⟨none,[eu 18 14 17,aa 19 18]⟩,⟨(some (19,true)),[aa 20 0,((some 21),.op (.im (.tmp 20) (.val (.val (.int .i64 1))))),((some 22),.op (.arith .leq (.tmp 21) (.val (.val (.int .u8 126)))))]⟩,⟨none,[eu 23 19 22,aa 24 23]⟩,⟨(some (24,true)),[aa 25 0,((some 26),.op (.im (.tmp 25) (.val (.val (.int .i64 1))))),((some 27),.op (.arith .neq (.tmp 26) (.val (.val (.int .u8 39)))))]⟩,⟨none,[eu 28 24 27,aa 29 28]⟩,⟨(some (29,true)),[aa 30 0,((some 31),.op (.im (.tmp 30) (.val (.val (.int .i64 1))))),((some 32),.op (.arith .neq (.tmp 31) (.val (.val (.int .u8 92)))))]⟩,⟨none,[eu 33 29 32,aa 2 33]⟩],.ret])],.region false [⟨none,[aa 34 0,((some 35),.op (.pN (.tmp 34))),aG 36 .eql 35 4,aa 37 36]⟩,⟨(some (37,true)),[aa 38 0,((some 39),.op (.im (.tmp 38) (.val (.val (.int .i64 0))))),((some 40),.op (.arith .eql (.tmp 39) (.val (.val (.int .u8 39)))))]⟩,⟨none,[eu 41 37 40,aa 42 41]⟩,⟨(some (42,true)),[aa 43 0,((some 44),.op (.im (.tmp 43) (.val (.val (.int .i64 3))))),((some 45),.op (.arith .eql (.tmp 44) (.val (.val (.int .u8 39)))))]⟩,⟨none,[eu 46 42 45,aa 47 46]⟩,⟨(some (47,true)),[aa 48 0,((some 49),.op (.im (.tmp 48) (.val (.val (.int .i64 1))))),((some 50),.op (.arith .eql (.tmp 49) (.val (.val (.int .u8 92)))))]⟩,⟨none,[eu 51 47 50,aa 52 51]⟩,⟨(some (52,true)),[aa 53 0,((some 54),.op (.im (.tmp 53) (.val (.val (.int .i64 2))))),((some 55),.op (.arith .eql (.tmp 54) (.val (.val (.int .u8 110))))),aa 56 55]⟩,⟨(some (56,false)),[aa 57 0,((some 58),.op (.im (.tmp 57) (.val (.val (.int .i64 2))))),((some 59),.op (.arith .eql (.tmp 58) (.val (.val (.int .u8 116)))))]⟩,⟨(some (52,true)),[cM 60 56 59,aa 61 60]⟩,⟨(some (61,false)),[aa 62 0,((some 63),.op (.im (.tmp 62) (.val (.val (.int .i64 2))))),((some 64),.op (.arith .eql (.tmp 63) (.val (.val (.int .u8 92)))))]⟩,⟨(some (52,true)),[cM 65 61 64,aa 66 65]⟩,⟨(some (66,false)),[aa 67 0,((some 68),.op (.im (.tmp 67) (.val (.val (.int .i64 2))))),((some 69),.op (.arith .eql (.tmp 68) (.val (.val (.int .u8 39)))))]⟩,⟨(some (52,true)),[cM 70 66 69]⟩,⟨none,[eu 71 52 70,aa 2 71]⟩],.ret],
 [.tmp 2],72⟩
theorem sm:aH Tryz.prog 232 []=some mW:=by kernel_rfl
def oY:SF:=⟨ae [ab [bq 2 false],.region false [⟨none,[aa 3 0,aX 4 172 [3],aa 5 4]⟩,⟨(some (5,false)),[aa 6 0,aX 7 232 [6]]⟩,⟨none,[cM 8 5 7,aa 2 8]⟩],.ret],
 [.tmp 2],9⟩
theorem ua:aH Tryz.prog 169 []=some oY:=by kernel_rfl
theorem PT (s:ByteArray) (H:View):av Tryz.prog 232 [gs s] H λr H'=>r=gb (mD (fG s))/\H'=H:=by
 refine av.of mixed sm ?_
 simp(disch:=omega)only[↓wr,seval,wq,mW,eR]
 apply ai.eq<;>intro h
 .obtain⟨a,b,c,e⟩:=Tp (l:=fG s) (by omega)
  repeat' (first | ((first|apply ai.dec|apply ai.eq|apply ai.ne|apply ai.split)<;>intro)|(simp(disch:=omega)only[↓wr,seval,wq,e,U1,Ve]))
  all_goals (congr 2;simp only[mD];grind)
 .simp(disch:=omega)only[↓wr,seval,wq,eR]
  apply ai.eq<;>intro f
  .obtain⟨a,b,c,d,e⟩:=T4 (l:=fG s) (by omega)
   repeat' (first | ((first|apply ai.dec|apply ai.eq|apply ai.ne|apply ai.split)<;>intro)|(simp(disch:=omega)only[↓wr,seval,wq,e,U1,Ve]))
   all_goals (congr 2;simp only[mD];grind)
  .repeat' (first | ((first|apply ai.dec|apply ai.eq|apply ai.ne|apply ai.split)<;>intro)|(simp(disch:=omega)only[↓wr,seval,wq,eR]))
   rw[O0 (by omega) (by omega)]
theorem pO (s:ByteArray):∀ v∈[gs s],Tree v:=by intro v a;simp at a;subst a;exact .val _
theorem EL (s:ByteArray):az Tryz.prog 172 [gs s] (gb (gI (fG s))) :=
 az.of (pO s) ((MI s _).mono λr H' h a _=>by rw[h.1];exact .tree _ (.val _))
theorem Pe (s:ByteArray):az Tryz.prog 232 [gs s] (gb (mD (fG s))) :=
 az.of (pO s) ((PT s _).mono λr H' h a _=>by rw[h.1];exact .tree _ (.val _))
def qC (l:List Int):Bool:=gI l || mD l
theorem Lz (s:ByteArray) (H:View):av Tryz.prog 169 [gs s] H λr H'=>r=gb (qC (fG s))/\H'=H:=by
 refine av.of mixed ua ?_
 simp(disch:=omega)only[↓wr,seval,wq,oY]
 refine aw.pure (EL s) ?_
 repeat' (first | ((first|apply ai.dec|apply ai.eq|apply ai.ne|apply ai.split)<;>intro)|(simp(disch:=omega)only[↓wr,seval,wq]))
 .rename_i h;simp[qC,h]
 .rename_i h
  refine aw.pure (Pe s) ?_
  repeat' (first | ((first|apply ai.dec|apply ai.eq|apply ai.ne|apply ai.split)<;>intro)|(simp(disch:=omega)only[↓wr,seval,wq]))
  simp[qC,h]
theorem KM (s:ByteArray):az Tryz.prog 169 [gs s] (gb (qC (fG s))) :=
 az.of (pO s) ((Lz s _).mono λr H' h a _=>by rw[h.1];exact .tree _ (.val _))
def ov (s:ByteArray):List ByteArray->Int->Int
 | [],_=>-1
 | x :: l,i=>if iV x s=true then i else ov s l (i+1)
def rz (g:ag) (s:ByteArray):Int:=ov s (g.au.map Term.name) 0
def C1 (g:ag) (s:ByteArray):Int:=ov s g.aj 0
theorem dW {α:Type} {l:List α} {i:Nat} (h:i < l.length):l.drop i=l[i] :: l.drop (i+1):=Vg h
theorem HL (g:ag) (s:ByteArray):∀ v∈[V.agg (af g),gs s],Tree v:=by
 intro v a;simp at a
 rcases a with rfl | rfl
 .exact bZ _ (cz g)
 .exact .val _
theorem dO (g:ag):∀ v∈[V.agg (af g)],Tree v:=by intro v a;simp at a;subst a;exact bZ _ (cz g)
theorem Gw (g:ag) (x:Int):∀ v∈[V.agg (af g),gi x],Tree v:=by
 intro v a;simp at a
 rcases a with rfl | rfl
 .exact bZ _ (cz g)
 .exact .val _
theorem az.val {P:Program} {f:FuncId} {vs:List V} {x:Value} (a:∀ v∈vs,Tree v) (h:∀ H,av P f vs H λr _=>r=.val x):az P f vs (.val x) :=
 az.of a ((h _).mono λr H' e b _=>by rw[e];exact .tree _ (.val _))
def oc:SC :=
 ae [ae [ab [aa 6 5,al 7 0 2,ak 8 7,aM 9 8,aR 10 .lss 6 9],bX 10 (.exit 0)],.block 1 (ae [ab [al 13 0 2,ak 14 13,aa 15 5,aO 16 3 14 15,al 17 0 16,ak 18 17,aa 19 1,((some 20),.op (.xg .eql (.tmp 18) (.tmp 19)))],ba 20 (ae [ab [aa 21 5,aa 4 21],.ret])]),ab [aa 11 5,aG 12 .add 11 1,aa 5 12]]
def qH:SF:=⟨ae [ab [cw 2 0,aN 4 0],ae [ab [aN 5 0],bY 0 oc],ab [aN 4 (-1)],.ret],
 [.tmp 4],22⟩
theorem uJ:aH Tryz.prog 170 [2]=some qH:=by kernel_rfl
def oZ:SC :=
 ae [ae [ab [aa 6 5,al 7 1 2,ak 8 7,aM 9 8,aR 10 .lss 6 9],bX 10 (.exit 0)],.block 1 (ae [ab [al 13 1 2,ak 14 13,aa 15 5,aO 16 1 14 15,ak 17 16,aa 18 1,((some 19),.op (.xg .eql (.tmp 17) (.tmp 18)))],ba 19 (ae [ab [aa 20 5,aa 4 20],.ret])]),ab [aa 11 5,aG 12 .add 11 1,aa 5 12]]
def rh:SF:=⟨ae [ab [cw 2 0,aN 4 0],ae [ab [aN 5 0],bY 0 oZ],ab [aN 4 (-1)],.ret],
 [.tmp 4],21⟩
theorem vX:aH Tryz.prog 150 [2]=some rh:=by kernel_rfl
def nA:SC :=
 ae [ae [ab [aa 8 6,al 9 0 2,ak 10 9,aM 11 10,aR 12 .lss 8 11],bX 12 (.exit 0)],.block 1 (ae [.region false [⟨none,[al 15 0 2,ak 16 15,aa 17 6,aO 18 3 16 17,aS 19 3 18,((some 7),.op (.alloc [(.val (.string ⟨#[]⟩)),(.val (.int .i64 0)),(.val (.int .i64 0))])),cg 3 7 19]⟩],ae [ab [al 20 1 7,ak 21 20,aa 22 1,aR 23 .neq 21 22],ba 23 (.exit 1)],ae [.region false [⟨none,[aa 24 5,aG 25 .neq 24 0,aa 26 25]⟩,⟨(some (26,true)),[aa 27 5,al 28 2 7,ak 29 28,aR 30 .neq 27 29]⟩,⟨none,[eu 31 26 30]⟩],ba 31 (ae [ab [bq 4 false],.ret])],ab [al 32 2 7,ak 33 32,aa 5 33]]),ab [aa 13 6,aG 14 .add 13 1,aa 6 14]]
def pe:SF:=⟨ae [ab [cw 2 0,bq 4 false],ab [aN 5 0],ae [ab [aN 6 0],bY 0 nA],ab [aa 34 5,aG 35 .neq 34 0,aa 4 35],.ret],
 [.tmp 4],36⟩
theorem tZ:aH Tryz.prog 171 [2]=some pe:=by kernel_rfl
theorem MB (g:ag) (e:g.Ok) (s:ByteArray) (H:View):av Tryz.prog 170 [.agg (af g),gs s] H λr _=>r=gi (rz g s):=by
 refine av.of mixed uJ ?_
 have h:g.au.length < 4611686018427387904:=e.au
 simp(disch:=omega)only[↓wr,seval,wq,qH,af,encS]
 refine aV.intro (λk T _=>∃ i:Nat,i+k=g.au.length/\ov s ((g.au.drop i).map Term.name) i=rz g s/\T 1=gs s/\T 2=.aJ (af g) 0/\T 5=gi i) g.au.length ?_ ?_
 .exact⟨0,by omega,rfl,rfl,rfl,rfl⟩
 .rintro k T H' ⟨i,hk,hi,h1,a,b⟩
  simp(disch:=omega)only[↓wr,seval,wq,oc,h1,a,b,af]
  apply ai.dec<;>intro f
  .have c:g.au[i]?=some (g.au[i]'(by omega)):=Uv (by omega)
   rw[dW (show i < g.au.length by omega)] at hi
   generalize g.au[i]'(by omega)=t at c hi
   simp only[U2,ov] at hi
   simp(disch:=omega)only[↓wr,seval,wq,h1,a,b,af,cP,Uy,c,UH]
   apply ai.split<;>intro d
   .rw[Uz d] at hi
    simp(disch:=omega)only[↓wr,seval,wq,h1,a,b]
    rw[hi]
   .rw[d,Ux (by simp)] at hi
    simp(disch:=omega)only[↓wr,seval,wq,h1,a,b]
    exact⟨k - 1,by omega,i+1,by omega,by push_cast;exact hi,rfl,rfl⟩
  .rw[US (by omega)] at hi
   simp only[VS,ov] at hi
   simp(disch:=omega)only[↓wr,seval,wq,h1,a,b]
   rw[hi]
theorem DY (g:ag) (a:g.Ok) (s:ByteArray):az Tryz.prog 170 [.agg (af g),gs s] (gi (rz g s)):=az.val (HL g s) (MB g a s)
theorem Pd (g:ag) (e:g.Ok) (s:ByteArray) (H:View):av Tryz.prog 150 [.agg (af g),gs s] H λr _=>r=gi (C1 g s):=by
 refine av.of mixed vX ?_
 have h:g.aj.length < 4611686018427387904:=e.aj
 simp(disch:=omega)only[↓wr,seval,wq,rh,af,encS]
 refine aV.intro (λk T _=>∃ i:Nat,i+k=g.aj.length/\ov s (g.aj.drop i) i=C1 g s/\T 1=gs s/\T 2=.aJ (af g) 0/\T 5=gi i) g.aj.length ?_ ?_
 .exact⟨0,by omega,rfl,rfl,rfl,rfl⟩
 .rintro k T H' ⟨i,hk,hi,h1,a,b⟩
  simp(disch:=omega)only[↓wr,seval,wq,oZ,h1,a,b,af,encS]
  apply ai.dec<;>intro f
  .have c:g.aj[i]?=some (g.aj[i]'(by omega)):=Uv (by omega)
   rw[dW (show i < g.aj.length by omega)] at hi
   generalize g.aj[i]'(by omega)=t at c hi
   simp only[U2,ov] at hi
   simp(disch:=omega)only[↓wr,seval,wq,h1,a,b,af,encS,Uy,c,UH]
   apply ai.split<;>intro d
   .rw[Uz d] at hi
    simp(disch:=omega)only[↓wr,seval,wq,h1,a,b]
    rw[hi]
   .rw[d,Ux (by simp)] at hi
    simp(disch:=omega)only[↓wr,seval,wq,h1,a,b]
    exact⟨k - 1,by omega,i+1,by omega,by push_cast;exact hi,rfl,rfl⟩
  .rw[US (by omega)] at hi
   simp only[VS,ov] at hi
   simp(disch:=omega)only[↓wr,seval,wq,h1,a,b]
   rw[hi]
theorem Pk (g:ag) (a:g.Ok) (s:ByteArray):az Tryz.prog 150 [.agg (af g),gs s] (gi (C1 g s)):=az.val (HL g s) (Pd g a s)
def jv (n:Int):List Term->Int->Option Int
 | [],DD=>some DD
 | t :: r,DD=>if t.level=n then (if DD≠0/\DD≠t.assoc then none else jv n r t.assoc) else jv n r DD
def gR (l:List Term) (n:Int):Bool:=match jv n l 0 with
 | some w=>w != 0
 | none=>false
theorem KZ (g:ag) (l:g.Ok) (n:Int) (H:View):av Tryz.prog 171 [.agg (af g),gi n] H λr _=>r=gb (gR g.au n):=by
 refine av.of mixed tZ ?_
 have p:g.au.length < 4611686018427387904:=l.au
 simp(disch:=omega)only[↓wr,seval,wq,pe,af,encS]
 refine aV.intro (λk T _=>∃ (i:Nat) (w:Int),i+k=g.au.length/\jv n (g.au.drop i) w=jv n g.au 0/\T 1=gi n/\T 2=.aJ (af g) 0/\T 5=gi w/\T 6=gi i) g.au.length ?_ ?_
 .exact⟨0,0,by omega,rfl,rfl,rfl,rfl,rfl⟩
 .rintro k T H' ⟨i,w,hk,hi,h1,c,d,f⟩
  simp(disch:=omega)only[↓wr,seval,wq,nA,h1,c,d,f,af]
  apply ai.dec<;>intro o
  .have h:g.au[i]?=some (g.au[i]'(by omega)):=Uv (by omega)
   rw[dW (show i < g.au.length by omega)] at hi
   generalize g.au[i]'(by omega)=t at h hi
   simp only[jv] at hi
   simp(disch:=omega)only[↓wr,seval,wq,h1,c,d,f,af,cP,Uy,h,UH]
   intro m hm
   try simp(disch:=omega)only[↓wr,seval,wq,h1,c,d,f]
   apply ai.ne<;>intro j
   .rw[Ux j] at hi
    simp(disch:=omega)only[↓wr,seval,wq,h1,c,d,f]
    exact⟨k - 1,by omega,i+1,w,by omega,hi,by first | rfl | exact⟨rfl,rfl⟩ | exact⟨rfl,rfl,rfl⟩⟩
   .rw[Uz j] at hi
    repeat' (first | ((first|apply ai.dec|apply ai.eq|apply ai.ne|apply ai.split)<;>intro)|(simp(disch:=omega)only[↓wr,seval,wq,h1,c,d,f]))
    .rename_i a b
     rw[Uz ⟨a,b⟩] at hi
     simp only[gR,<-hi]
    .rename_i a b
     rw[Ux (λe=>e.2 b)] at hi
     exact⟨k - 1,by omega,i+1,_,by omega,hi,by first | rfl | exact⟨rfl,rfl⟩ | exact⟨rfl,rfl,rfl⟩⟩
    .rename_i a
     rw[Ux (λe=>e.1 a)] at hi
     exact⟨k - 1,by omega,i+1,_,by omega,hi,by first | rfl | exact⟨rfl,rfl⟩ | exact⟨rfl,rfl,rfl⟩⟩
  .rw[US (by omega)] at hi
   simp only[jv] at hi
   simp(disch:=omega)only[↓wr,seval,wq,h1,c,d,f]
   simp only[gR,<-hi]
theorem K9 (g:ag) (a:g.Ok) (n:Int):az Tryz.prog 171 [.agg (af g),gi n] (gb (gR g.au n)):=az.val (Gw g n) (KZ g a n)
def s8 (g:ag) (t:Term):Bool:=(List.range t.level.toNat).all λk=>gR g.au ((k:Int)+1)
def k9 (g:ag) (i:Int) (t:Term):Bool :=
 qC (fG t.name) && (rz g t.name == i) && decide (0<=t.level) && decide (t.level<=24) && decide (0<=t.assoc) && decide (t.assoc<=3) && ((t.level == 0) == (t.assoc == 0)) && s8 g t
def oe (g:ag):List Term->Int->Bool
 | [],_=>true
 | t :: r,i=>k9 g i t && oe g r (i+1)
def ly (g:ag):Bool:=decide (g.au.length<=24) && oe g g.au 0
def nz:SC :=
 ae [ae [ab [aa 63 5,al 64 1 4,ak 65 64,aR 66 .leq 63 65],bX 66 (.exit 2)],.block 3 (ae [ab [aS 69 4 1,aa 70 5,aX 71 171 [69,70],c7 72 71],ba 72 (ae [ab [bq 2 false],.ret])]),ab [aa 67 5,aG 68 .add 67 1,aa 5 68]]
def nj:SC :=
 ae [ae [ab [aa 10 3,al 11 0 1,ak 12 11,aM 13 12,aR 14 .lss 10 13],bX 14 (.exit 0)],.block 1 (ae [.region false [⟨none,[al 17 0 1,ak 18 17,aa 19 3,aO 20 3 18 19,aS 21 3 20,((some 4),.op (.alloc [(.val (.string ⟨#[]⟩)),(.val (.int .i64 0)),(.val (.int .i64 0))])),cg 3 4 21]⟩],ae [.region false [⟨none,[al 22 0 4,ak 23 22,aX 24 169 [23],c7 25 24,aa 26 25]⟩,⟨(some (26,false)),[aS 27 4 1,al 28 0 4,ak 29 28,aX 30 170 [27,29],aa 31 3,aR 32 .neq 30 31]⟩,⟨none,[cM 33 26 32,aa 34 33]⟩,⟨(some (34,false)),[al 35 1 4,ak 36 35,aG 37 .lss 36 0]⟩,⟨none,[cM 38 34 37,aa 39 38]⟩,⟨(some (39,false)),[al 40 1 4,ak 41 40,aG 42 .gtr 41 24]⟩,⟨none,[cM 43 39 42,aa 44 43]⟩,⟨(some (44,false)),[al 45 2 4,ak 46 45,aG 47 .lss 46 0]⟩,⟨none,[cM 48 44 47,aa 49 48]⟩,⟨(some (49,false)),[al 50 2 4,ak 51 50,aG 52 .gtr 51 3]⟩,⟨none,[cM 53 49 52,aa 54 53]⟩,⟨(some (54,false)),[al 55 1 4,ak 56 55,aG 57 .eql 56 0,al 58 2 4,ak 59 58,aG 60 .eql 59 0,((some 61),.op (.beq false (.tmp 57) (.tmp 60)))]⟩,⟨none,[cM 62 54 61]⟩],ba 62 (ae [ab [bq 2 false],.ret])],ab [aN 5 1],bY 2 nz]),ab [aa 15 3,aG 16 .add 15 1,aa 3 16]]
def pq:SF:=⟨ae [ab [cw 1 0,bq 2 false],ae [ab [al 6 0 1,ak 7 6,aM 8 7,aG 9 .gtr 8 24],ba 9 (ae [ab [bq 2 false],.ret])],ae [ab [aN 3 0],bY 0 nj],ab [bq 2 true],.ret],
 [.tmp 2],73⟩
theorem tT:aH Tryz.prog 104 [1]=some pq:=by kernel_rfl
def nT:SC :=
 ae [ae [ab [aa 14 3,al 15 1 1,ak 16 15,aM 17 16,aR 18 .lss 14 17],bX 18 (.exit 0)],.block 1 (ae [.region false [⟨none,[al 21 1 1,ak 22 21,aa 23 3,aO 24 1 22 23,ak 25 24,aX 26 172 [25],c7 27 26,aa 28 27]⟩,⟨(some (28,false)),[aS 29 4 1,al 30 1 1,ak 31 30,aa 32 3,aO 33 1 31 32,ak 34 33,aX 35 150 [29,34],aa 36 3,aR 37 .neq 35 36]⟩,⟨none,[cM 38 28 37,aa 39 38]⟩,⟨(some (39,false)),[aS 40 4 1,al 41 1 1,ak 42 41,aa 43 3,aO 44 1 42 43,ak 45 44,aX 46 170 [40,45],aG 47 .geq 46 0]⟩,⟨none,[cM 48 39 47]⟩],ba 48 (ae [ab [bq 2 false],.ret])]),ab [aa 19 3,aG 20 .add 19 1,aa 3 20]]
def qI:SF:=⟨ae [ab [cw 1 0,bq 2 false],ae [.region false [⟨none,[al 4 1 1,ak 5 4,aM 6 5,aG 7 .lss 6 1,aa 8 7]⟩,⟨(some (8,false)),[al 9 1 1,ak 10 9,aM 11 10,aG 12 .gtr 11 16]⟩,⟨none,[cM 13 8 12]⟩],ba 13 (ae [ab [bq 2 false],.ret])],ae [ab [aN 3 0],bY 0 nT],ab [bq 2 true],.ret],
 [.tmp 2],49⟩
theorem u4:aH Tryz.prog 105 [1]=some qI:=by kernel_rfl
def nH:SC :=
 ae [ae [ab [aa 23 5,al 24 1 3,ak 25 24,aM 26 25,aR 27 .lss 23 26],bX 27 (.exit 0)],.block 1 (ae [.region false [⟨none,[aS 30 4 2,al 31 1 3,ak 32 31,aa 33 5,aO 34 1 32 33,ak 35 34,aX 36 74 [30,35],c7 37 36,aa 38 37]⟩,⟨(some (38,false)),[al 39 1 3,ak 40 39,aa 41 5,aO 42 1 40 41,ak 43 42,aG 44 .geq 43 0,aa 45 44]⟩,⟨(some (45,true)),[al 46 2 3,ak 47 46,aG 48 .eql 47 (-1)]⟩,⟨(some (38,false)),[eu 49 45 48]⟩,⟨none,[cM 50 38 49]⟩],ba 50 (ae [ab [bq 4 false],.ret])]),ab [aa 28 5,aG 29 .add 28 1,aa 5 29]]
def qk:SF:=⟨ae [ab [cw 2 0,cw 3 1,bq 4 false],ae [.region false [⟨none,[al 6 1 3,ak 7 6,aM 8 7,aG 9 .gtr 8 6,aa 10 9]⟩,⟨(some (10,false)),[al 11 2 3,ak 12 11,aG 13 .lss 12 (-1)]⟩,⟨none,[cM 14 10 13,aa 15 14]⟩,⟨(some (15,false)),[al 16 2 3,ak 17 16,al 18 0 2,ak 19 18,aM 20 19,aR 21 .geq 17 20]⟩,⟨none,[cM 22 15 21]⟩],ba 22 (ae [ab [bq 4 false],.ret])],ae [ab [aN 5 0],bY 0 nH],ab [bq 4 true],.ret],
 [.tmp 4],51⟩
theorem uE:aH Tryz.prog 106 [2,3]=some qk:=by kernel_rfl
def nr:SC :=
 ae [ae [ab [aa 39 4,al 40 2 1,ak 41 40,aM 42 41,aR 43 .lss 39 42],bX 43 (.exit 0)],.block 1 (ae [ab [al 46 2 1,ak 47 46,aa 48 4,aO 49 3 47 48,aS 50 3 49,((some 5),.op (.alloc [(.val (.int .i64 0)),(.emp 1),(.val (.int .i64 0))])),cg 3 5 50],ae [.region false [⟨none,[al 51 0 5,ak 52 51,aG 53 .lss 52 0,aa 54 53]⟩,⟨(some (54,false)),[al 55 0 5,ak 56 55,aa 57 3,aG 58 .add 57 1,aR 59 .gtr 56 58]⟩,⟨none,[cM 60 54 59,aa 61 60]⟩,⟨(some (61,false)),[aS 62 4 1,aS 63 3 5,aX 64 106 [62,63],c7 65 64]⟩,⟨none,[cM 66 61 65]⟩],ba 66 (ae [ab [bq 2 false],.ret])],ab [al 67 0 5,ak 68 67,aa 69 3,aR 70 .gtr 68 69],ba 70 (ab [al 71 0 5,ak 72 71,aa 3 72])]),ab [aa 44 4,aG 45 .add 44 1,aa 4 45]]
def oW:SF:=⟨ae [ab [cw 1 0,bq 2 false],ae [.region false [⟨none,[aS 6 4 1,aX 7 104 [6],c7 8 7,aa 9 8]⟩,⟨(some (9,false)),[aS 10 4 1,aX 11 105 [10],c7 12 11]⟩,⟨none,[cM 13 9 12,aa 14 13]⟩,⟨(some (14,false)),[al 15 2 1,ak 16 15,aM 17 16,aG 18 .lss 17 1]⟩,⟨none,[cM 19 14 18,aa 20 19]⟩,⟨(some (20,false)),[al 21 2 1,ak 22 21,aM 23 22,aG 24 .gtr 23 40]⟩,⟨none,[cM 25 20 24,aa 26 25]⟩,⟨(some (26,false)),[al 27 3 1,ak 28 27,aG 29 .lss 28 0]⟩,⟨none,[cM 30 26 29,aa 31 30]⟩,⟨(some (31,false)),[al 32 3 1,ak 33 32,al 34 1 1,ak 35 34,aM 36 35,aR 37 .geq 33 36]⟩,⟨none,[cM 38 31 37]⟩],ba 38 (ae [ab [bq 2 false],.ret])],ab [aN 3 (-1)],ae [ab [aN 4 0],bY 0 nr],ab [aa 73 3,al 74 1 1,ak 75 74,aM 76 75,aG 77 .sub 76 1,aR 78 .eql 73 77,aa 2 78],.ret],
 [.tmp 2],79⟩
theorem tN:aH Tryz.prog 50 [1]=some oW:=by kernel_rfl
theorem Kt (g:ag) (p:g.Ok) (H:View):av Tryz.prog 104 [.agg (af g)] H λr _=>r=gb (ly g):=by
 refine av.of mixed tT ?_
 simp(disch:=omega)only[↓wr,seval,wq,pq,af,encS]
 apply ai.dec<;>intro h
 .simp(disch:=omega)only[↓wr,seval,wq]
  simp[ly,show ¬ g.au.length<=24 by omega]
 .have hle:g.au.length<=24:=by omega
  simp(disch:=omega)only[↓wr,seval,wq]
  refine aV.intro (λk T _=>∃ i:Nat,i+k=g.au.length/\oe g (g.au.drop i) i=oe g g.au 0/\T 1=.aJ (af g) 0/\T 3=gi i) g.au.length ?_ ?_
  .exact⟨0,by omega,rfl,rfl,rfl⟩
  .rintro k T H' ⟨i,hk,hi,h1,d⟩
   simp(disch:=omega)only[↓wr,seval,wq,nj,h1,d,af]
   apply ai.dec<;>intro z
   .have f:g.au[i]?=some (g.au[i]'(by omega)):=Uv (by omega)
    rw[dW (show i < g.au.length by omega)] at hi
    have b:g.au[i]'(by omega)∈g.au:=UC _
    generalize g.au[i]'(by omega)=t at f hi b
    obtain⟨⟨A,B⟩,⟨C,D⟩⟩:=p.term t b
    simp only[oe] at hi
    have a:k9 g i t=false->gb false=gb (ly g):=λe=>by rw[e,VM] at hi;simp[ly,<-hi]
    simp(disch:=omega)only[↓wr,seval,wq,h1,d,af,cP,Uy,f,UH]
    intro m hm
    try simp(disch:=omega)only[↓wr,seval,wq,h1,d]
    refine aw.pure (KM t.name) ?_
    repeat' (first | ((first|apply ai.dec|apply ai.eq|apply ai.ne|apply ai.split)<;>intro)|(simp(disch:=omega)only[↓wr,seval,wq,h1,d,af]))
    all_goals try (refine a ?_;simp[k9, *];done)
    rename_i s
    refine aw.pure (DY g p t.name) ?_
    repeat' (first | ((first|apply ai.dec|apply ai.eq|apply ai.ne|apply ai.split)<;>intro)|(simp(disch:=omega)only[↓wr,seval,wq,h1,d,af]))
    all_goals try (refine a ?_;simp[k9, *];done)
    all_goals try (refine a ?_;simp[k9];grind)
    rename_i E K L M N F
    have c:k9 g i t=s8 g t:=by
     have u:((t.level == 0) == (t.assoc == 0))=true:=by simpa using F
     simp[k9,s,E,u,show (0:Int)<=t.level by omega,show t.level<=24 by omega,show (0:Int)<=t.assoc by omega,show t.assoc<=3 by omega]
    refine aV.intro (λv T l=>∃ j:Nat,1<=j/\j+v=t.level.toNat+1/\(∀ q:Nat,q+1 < j->gR g.au ((q:Int)+1)=true)/\T 1=.aJ (af g) 0/\T 3=gi i/\T 4=.ptr m 0 0/\l m=.arr 3 [[gs t.name,gi t.level,gi t.assoc]]/\T 5=gi j) t.level.toNat ?_ ?_
    .refine⟨1,by omega,by omega,λq w=>by omega,?_⟩
     simp(disch:=omega)only[↓wr,↓reduceIte,wq,Nat.reduceEqDiff,Nat.reduceAdd,Nat.reduceLT,Nat.reduceLeDiff,Int.reduceNeg,Int.reduceToNat,reduceCtorEq,h1,d,af]
     rfl
    .rintro v O l ⟨j,G,I,n,f1,f3,f4,o,f5⟩
     simp(disch:=omega)only[↓wr,seval,wq,nz,f1,f3,f4,f5,o]
     apply ai.dec<;>intro J
     .simp(disch:=omega)only[↓wr,seval,wq,f1,f3,f4,f5,o,af]
      refine aw.pure (K9 g p j) ?_
      repeat' (first | ((first|apply ai.dec|apply ai.eq|apply ai.ne|apply ai.split)<;>intro)|(simp(disch:=omega)only[↓wr,seval,wq,f1,f3,f4,f5,o,af]))
      .rename_i x
       refine⟨v - 1,by omega,j+1,by omega,by omega,λq w=>?_,by first | rfl | exact⟨rfl,rfl⟩ | exact⟨rfl,rfl,rfl⟩⟩
       by_cases e:q+1=j
       .have:(q:Int)+1=j:=by omega
        rw[this];exact x
       .exact n q (by omega)
      .rename_i x
       refine a ?_
       rw[c,s8,List.all_eq_false]
       refine⟨j - 1,by simp;omega,?_⟩
       have:((j - 1:Nat):Int)+1=j:=by omega
       rw[this,x];simp
     .simp(disch:=omega)only[↓wr,seval,wq,f1,f3,f4,f5,o]
      refine⟨k - 1,by omega,i+1,by omega,?_,by first | rfl | exact⟨rfl,rfl⟩ | exact⟨rfl,rfl,rfl⟩⟩
      have y:s8 g t=true:=by
       rw[s8,U3]
       intro q w
       exact n q (by simp at w;omega)
      rw[c,y,Vt] at hi
      push_cast;exact hi
   .rw[US (by omega)] at hi
    simp only[oe] at hi
    simp(disch:=omega)only[↓wr,seval,wq,h1,d]
    simp[ly,hle,<-hi]
theorem Kv (g:ag) (a:g.Ok):az Tryz.prog 104 [.agg (af g)] (gb (ly g)):=az.val (dO g) (Kt g a)
def pL (g:ag) (i:Int) (s:ByteArray):Bool:=gI (fG s) && (C1 g s == i) && decide (rz g s < 0)
def rH (g:ag):List ByteArray->Int->Bool
 | [],_=>true
 | s :: r,i=>pL g i s && rH g r (i+1)
def lU (g:ag):Bool:=decide (1<=g.aj.length) && decide (g.aj.length<=16) && rH g g.aj 0
theorem Oz (g:ag) (h:g.Ok) (H:View):av Tryz.prog 105 [.agg (af g)] H λr _=>r=gb (lU g):=by
 refine av.of mixed u4 ?_
 repeat' (first | ((first|apply ai.dec|apply ai.eq|apply ai.ne|apply ai.split)<;>intro)|(simp(disch:=omega)only[↓wr,seval,wq,qI,af,encS]))
 .simp[lU,show ¬ 1<=g.aj.length by omega]
 .simp[lU,show ¬ g.aj.length<=16 by omega]
 .have hle:g.aj.length<=16:=by omega
  refine aV.intro (λk T _=>∃ i:Nat,i+k=g.aj.length/\rH g (g.aj.drop i) i=rH g g.aj 0/\T 1=.aJ (af g) 0/\T 3=gi i) g.aj.length ?_ ?_
  .exact⟨0,by omega,rfl,rfl,rfl⟩
  .rintro k T H' ⟨i,hk,hi,h1,c⟩
   simp(disch:=omega)only[↓wr,seval,wq,nT,h1,c,af,encS]
   apply ai.dec<;>intro j
   .have b:g.aj[i]?=some (g.aj[i]'(by omega)):=Uv (by omega)
    rw[dW (show i < g.aj.length by omega)] at hi
    generalize g.aj[i]'(by omega)=t at b hi
    simp only[rH] at hi
    have a:pL g i t=false->gb false=gb (lU g):=λe=>by rw[e,VM] at hi;simp[lU,<-hi]
    simp(disch:=omega)only[↓wr,seval,wq,h1,c,af,encS,Uy,b,UH]
    refine aw.pure (EL t) ?_
    repeat' (first | ((first|apply ai.dec|apply ai.eq|apply ai.ne|apply ai.split)<;>intro)|(simp(disch:=omega)only[↓wr,seval,wq,h1,c,af,encS,Uy,b,UH]))
    all_goals try (refine a ?_;simp[pL, *];done)
    rename_i d
    refine aw.pure (Pk g h t) ?_
    repeat' (first | ((first|apply ai.dec|apply ai.eq|apply ai.ne|apply ai.split)<;>intro)|(simp(disch:=omega)only[↓wr,seval,wq,h1,c,af,encS,Uy,b,UH]))
    all_goals try (refine a ?_;simp[pL, *];done)
    rename_i f
    refine aw.pure (DY g h t) ?_
    repeat' (first | ((first|apply ai.dec|apply ai.eq|apply ai.ne|apply ai.split)<;>intro)|(simp(disch:=omega)only[↓wr,seval,wq,h1,c,af,encS]))
    all_goals try (refine a ?_;simp[pL, *];done)
    rename_i l
    refine⟨k - 1,by omega,i+1,by omega,?_,by first | rfl | exact⟨rfl,rfl⟩ | exact⟨rfl,rfl,rfl⟩⟩
    have:pL g i t=true:=by simp[pL,d,f,show rz g t < 0 by omega]
    rw[this,Vt] at hi
    push_cast;exact hi
   .rw[US (by omega)] at hi
    simp only[rH] at hi
    simp(disch:=omega)only[↓wr,seval,wq,h1,c]
    simp[lU,hle,show 1<=g.aj.length by omega,<-hi]
theorem NI (g:ag) (a:g.Ok):az Tryz.prog 105 [.agg (af g)] (gb (lU g)):=az.val (dO g) (Oz g a)
def pB (g:ag) (prec s:Int):Bool:=dI g s && !(decide (0<=s) && prec == -1)
def jj (g:ag) (r:bb):Bool:=decide (r.right.length<=6) && decide (-1<=r.prec) && decide (r.prec < g.au.length) && r.right.all (pB g r.prec)
theorem FT (g:ag) (r:bb):∀ v∈[V.agg (af g),V.agg (aI r)],Tree v:=by
 intro v a;simp at a
 rcases a with rfl | rfl
 .exact bZ _ (cz g)
 .exact bZ _ (fJ r)
theorem Me (g:ag) (r:bb) (hr:aL r.right/\∀ x∈r.right,bO x) (H:View):av Tryz.prog 106 [.agg (af g),.agg (aI r)] H λv _=>v=gb (jj g r):=by
 refine av.of mixed uE ?_
 repeat' (first | ((first|apply ai.dec|apply ai.eq|apply ai.ne|apply ai.split)<;>intro)|(simp(disch:=omega)only[↓wr,seval,wq,qk,af,encS,aI,encI]))
 .simp[jj,show ¬ r.right.length<=6 by omega]
 .simp[jj,show ¬ -1<=r.prec by omega]
 .simp[jj,show ¬ r.prec < g.au.length by omega]
 .have hle:r.right.length<=6:=by omega
  have j : -1<=r.prec:=by omega
  have l:r.prec < g.au.length:=by omega
  refine aV.intro (λk T _=>∃ i:Nat,i+k=r.right.length/\(r.right.drop i).all (pB g r.prec)=r.right.all (pB g r.prec)/\T 2=.aJ (af g) 0/\T 3=.aJ (aI r) 0/\T 5=gi i) r.right.length ?_ ?_
  .exact⟨0,by omega,rfl,rfl,rfl,rfl⟩
  .rintro k T H' ⟨i,hk,hi,d,f,h⟩
   simp(disch:=omega)only[↓wr,seval,wq,nH,d,f,h,aI,encI]
   apply ai.dec<;>intro o
   .have b:r.right[i]?=some (r.right[i]'(by omega)):=Uv (by omega)
    rw[dW (show i < r.right.length by omega)] at hi
    have a:r.right[i]'(by omega)∈r.right:=UC _
    generalize r.right[i]'(by omega)=t at b hi a
    have m:=hr.2 t a
    simp only[VL] at hi
    have c:pB g r.prec t=false->gb false=gb (jj g r):=λe=>by rw[e,VM] at hi;simp only[jj,<-hi,Bool.and_false]
    have n:pB g r.prec t=true->(r.right.drop (i+1)).all (pB g r.prec)=r.right.all (pB g r.prec):=λe=>by rw[e,Vt] at hi;exact hi
    simp(disch:=omega)only[↓wr,seval,wq,d,f,h,af,encS,aI,encI,Uy,b,UH]
    refine aw.pure (Oi g t m) ?_
    repeat' (first | ((first|apply ai.dec|apply ai.eq|apply ai.ne|apply ai.split)<;>intro)|(simp(disch:=omega)only[↓wr,seval,wq,d,f,h,af,encS,aI,encI,Uy,b,UH]))
    all_goals first
     | (refine c ?_;simp[pB, *];done)
     | (refine⟨k - 1,by omega,i+1,by omega,n (by simp[pB, *];done),by first | rfl | exact⟨rfl,rfl⟩ | exact⟨rfl,rfl,rfl⟩⟩)
     | skip
   .rw[US (by omega)] at hi
    simp only[List.all_nil] at hi
    simp(disch:=omega)only[↓wr,seval,wq,d,f,h]
    simp only[jj,hle,j,l,decide_true,Vt,<-hi]
theorem N8 (g:ag) (r:bb) (hr:aL r.right/\∀ x∈r.right,bO x):az Tryz.prog 106 [.agg (af g),.agg (aI r)] (gb (jj g r)):=az.val (FT g r) (Me g r hr)
def jw (g:ag):List bb->Int->Bool
 | [],top=>top == (g.aj.length:Int) - 1
 | r :: l,top=>decide (0<=r.left) && decide (r.left<=top+1) && jj g r && jw g l (if r.left > top then r.left else top)
def bV (g:ag):Bool :=
 ly g && lU g && decide (1<=g.rules.length) && decide (g.rules.length<=40) && decide (0<=g.start) && decide (g.start < g.aj.length) && jw g g.rules (-1)
theorem LA (g:ag) (h:g.Ok) (H:View):av Tryz.prog 50 [.agg (af g)] H λr _=>r=gb (bV g):=by
 refine av.of mixed tN ?_
 have o:=h.aj
 unfold aL at o
 simp(disch:=omega)only[↓wr,seval,wq,oW,af,encS]
 refine aw.pure (Kv g h) ?_
 repeat' (first | ((first|apply ai.dec|apply ai.eq|apply ai.ne|apply ai.split)<;>intro)|(simp(disch:=omega)only[↓wr,seval,wq,af,encS]))
 .rename_i h1
  refine aw.pure (NI g h) ?_
  repeat' (first | ((first|apply ai.dec|apply ai.eq|apply ai.ne|apply ai.split)<;>intro)|(simp(disch:=omega)only[↓wr,seval,wq,af,encS]))
  all_goals try (simp[bV, *];done)
  all_goals try (simp[bV];omega)
  rename_i p y z A B
  have hle:g.rules.length<=40:=by omega
  have a:∀ b,jw g g.rules (-1)=b->gb b=gb (bV g):=λb e=>by
   simp[bV,h1,p,show 1<=g.rules.length by omega,hle,show 0<=g.start by omega,show g.start < g.aj.length by omega,e]
  refine aV.intro (λk T _=>∃ (i:Nat) (w:Int),i+k=g.rules.length/\-1<=w/\w < i/\jw g (g.rules.drop i) w=jw g g.rules (-1)/\T 1=.aJ (af g) 0/\T 3=gi w/\T 4=gi i) g.rules.length ?_ ?_
  .exact⟨0,-1,by omega,by omega,by omega,rfl,rfl,rfl,rfl⟩
  .rintro k T H' ⟨i,w,hk,q,s,hi,f1,f3,f4⟩
   simp(disch:=omega)only[↓wr,seval,wq,nr,f1,f3,f4,af]
   apply ai.dec<;>intro u
   .have d:g.rules[i]?=some (g.rules[i]'(by omega)):=Uv (by omega)
    rw[dW (show i < g.rules.length by omega)] at hi
    have c:g.rules[i]'(by omega)∈g.rules:=UC _
    generalize g.rules[i]'(by omega)=t at d hi c
    obtain⟨⟨v,x⟩,hp,j,l⟩:=h.ax t c
    simp only[jw] at hi
    simp(disch:=omega)only[↓wr,seval,wq,f1,f3,f4,af,encS,aI,encI,Uy,d,UH]
    intro m hm
    try simp(disch:=omega)only[↓wr,seval,wq,f1,f3,f4]
    repeat' (first | ((first|apply ai.dec|apply ai.eq|apply ai.ne|apply ai.split)<;>intro)|(simp(disch:=omega)only[↓wr,seval,wq,f1,f3,f4,af,encS,aI,encI]))
    all_goals try (refine a _ ?_;simp only[<-hi];simp;omega)
    rename_i C D
    refine aw.pure (N8 g t ⟨j,l⟩) ?_
    repeat' (first | ((first|apply ai.dec|apply ai.eq|apply ai.ne|apply ai.split)<;>intro)|(simp(disch:=omega)only[↓wr,seval,wq,f1,f3,f4,af,encS,aI,encI]))
    all_goals simp only[show 0<=t.left by omega,show t.left<=w+1 by omega,decide_true,Vt] at hi
    .rename_i f n
     rw[f,Vt,Uz n] at hi
     exact⟨k - 1,by omega,i+1,_,by omega,by omega,by push_cast;omega,hi,by first | rfl | exact⟨rfl,rfl⟩ | exact⟨rfl,rfl,rfl⟩⟩
    .rename_i f n
     rw[f,Vt,Ux n] at hi
     exact⟨k - 1,by omega,i+1,_,by omega,by omega,by push_cast;omega,hi,by first | rfl | exact⟨rfl,rfl⟩ | exact⟨rfl,rfl,rfl⟩⟩
    .rename_i f
     rw[f,VM] at hi
     exact a _ hi.symm
   .rw[US (by omega)] at hi
    simp only[jw] at hi
    simp(disch:=omega)only[↓wr,seval,wq,f1,f3,f4,af,encS]
    exact a _ hi.symm
 .rename_i h1;simp[bV,h1]
theorem lB (g:ag) (a:g.Ok):az Tryz.prog 50 [.agg (af g)] (gb (bV g)):=az.val (dO g) (LA g a)
inductive cE (α:Type) where
 | nil
 | node (v:α) (l r:cE α)
noncomputable def cE.get {α:Type} (z:α) (t:cE α):Nat->α :=
 cE.rec (motive:=λ_=>Nat->α) (λ_=>z) (λv _ _ gl gr i=>Bool.rec (Bool.rec (gr (i / 2 - 1)) (gl (i / 2)) (Nat.beq (i % 2) 1)) v (Nat.beq i 0)) t
theorem cE.get_nil {α:Type} (z:α) (i:Nat):cE.get z .nil i=z:=rfl
theorem cE.P7 {α:Type} (z v:α) (l r:cE α) (i:Nat):cE.get z (.node v l r) i=match Nat.beq i 0 with
  | true=>v
  | false=>match Nat.beq (i % 2) 1 with
   | true=>cE.get z l (i / 2)
   | false=>cE.get z r (i / 2 - 1):=by
 change (Bool.rec (motive:=λ_=>α) _ _ _:α)=_
 cases Nat.beq i 0 with
 | true=>rfl
 | false=>cases Nat.beq (i % 2) 1 <;> rfl
def cE.val {α:Type} (z:α):cE α->α
 | .nil=>z
 | .node v _ _=>v
def cE.left {α:Type} : cE α->cE α
 | .nil=>.nil
 | .node _ l _=>l
def cE.right {α:Type} : cE α->cE α
 | .nil=>.nil
 | .node _ _ r=>r
noncomputable def cE.put {α:Type} (z:α) (x:α) (d:Nat):cE α->Nat->cE α :=
 Nat.rec (motive:=λ_=>cE α->Nat->cE α) (λt _=>t) (λ_ pd t i =>
  Bool.rec (Bool.rec (.node (t.val z) t.left (pd t.right (i / 2 - 1))) (.node (t.val z) (pd t.left (i / 2)) t.right) (Nat.beq (i % 2) 1)) (.node x t.left t.right) (Nat.beq i 0)) d
theorem cE.PW {α:Type} (z x:α) (d:Nat) (t:cE α) (i:Nat):cE.put z x (d+1) t i=match Nat.beq i 0 with
  | true=>.node x t.left t.right
  | false=>match Nat.beq (i % 2) 1 with
   | true=>.node (t.val z) (cE.put z x d t.left (i / 2)) t.right
   | false=>.node (t.val z) t.left (cE.put z x d t.right (i / 2 - 1)):=by
 change (Bool.rec (motive:=λ_=>cE α) _ _ _:cE α)=_
 cases Nat.beq i 0 with
 | true=>rfl
 | false=>cases Nat.beq (i % 2) 1 <;> rfl
theorem cE.mX {α:Type} (z:α) (t:cE α) (j:Nat):t.get z j=if j=0 then t.val z else if j % 2=1 then t.left.get z (j / 2) else t.right.get z (j / 2 - 1):=by
 cases t with
 | nil=>simp[cE.get_nil,cE.val,cE.left,cE.right]
 | node v l r =>
  simp only[cE.P7,cE.val,cE.left,cE.right]
  by_cases h:j=0
  .subst h;rfl
  .have:Nat.beq j 0=false:=by cases e:Nat.beq j 0 with | true=>exact absurd (V9 e) h | false=>rfl
   rw[this,Ux h]
   simp only
   by_cases a:j % 2=1
   .have:Nat.beq (j % 2) 1=true:=by rw[a];rfl
    rw[this,Uz a]
   .have:Nat.beq (j % 2) 1=false:=by cases e:Nat.beq (j % 2) 1 with | true=>exact absurd (V9 e) a | false=>rfl
    rw[this,Ux a]
theorem cE.nq {α:Type} (z x:α):∀ (d:Nat) (t:cE α) (i j:Nat),i+1 < 2 ^ d->(cE.put z x d t i).get z j=if j=i then x else t.get z j
 | 0,t,i,j,h=>by simp at h
 | d+1,t,i,j,h=>by
  rw[Nat.pow_succ] at h
  simp only[cE.PW]
  by_cases hi:i=0
  .subst hi
   have:Nat.beq 0 0=true:=rfl
   rw[this]
   simp only
   rw[cE.mX,cE.mX z t]
   simp only[cE.val,cE.left,cE.right]
   by_cases b:j=0
   .rw[Uz b,Uz b]
   .rw[Ux b,Ux b,Ux b]
  .have:Nat.beq i 0=false:=by cases e:Nat.beq i 0 with | true=>exact absurd (V9 e) hi | false=>rfl
   rw[this]
   simp only
   by_cases c:i % 2=1
   .have:Nat.beq (i % 2) 1=true:=by rw[c];rfl
    rw[this]
    simp only
    rw[cE.mX,cE.mX z t]
    simp only[cE.val,cE.left,cE.right]
    by_cases b:j=0
    .subst b;rw[Uz rfl,Ux (λe=>hi e.symm),Uz rfl]
    .rw[Ux b,Ux b]
     by_cases a:j % 2=1
     .rw[Uz a,Uz a,cE.nq z x d _ _ _ (by omega)]
      by_cases e:j=i
      .subst e;simp
      .rw[Ux e,Ux (by omega)]
     .rw[Ux a,Ux a,Ux (λe=>a (by rw[e];exact c))]
   .have:Nat.beq (i % 2) 1=false:=by cases e:Nat.beq (i % 2) 1 with | true=>exact absurd (V9 e) c | false=>rfl
    rw[this]
    simp only
    rw[cE.mX,cE.mX z t]
    simp only[cE.val,cE.left,cE.right]
    by_cases b:j=0
    .subst b;rw[Uz rfl,Ux (λe=>hi e.symm),Uz rfl]
    .rw[Ux b,Ux b]
     by_cases a:j % 2=1
     .rw[Uz a,Uz a,Ux (λe=>c (by rw[<-e];exact a))]
     .rw[Ux a,Ux a,cE.nq z x d _ _ _ (by omega)]
      by_cases e:j=i
      .subst e;simp
      .rw[Ux e,Ux (by omega)]
abbrev deep:Nat:=13
structure ES where
 L:cE V
 H:cE dB
 n:Nat
 w:List Nat
noncomputable def ES.T (s:ES):Env:=s.L.get .any
noncomputable def ES.V (s:ES):View:=s.H.get .dead
noncomputable def ES.put (s:ES) (d:Option Nat) (v:Gv.V):ES:=match d with
 | some t=>⟨s.L.put .any v deep t,s.H,s.n,s.w⟩
 | none=>s
theorem ES.QC {s:ES} {d:Option Nat} {v:Gv.V} (h:∀ t,d=some t->t < 8000):(s.put d v).T=s.T.put d v:=by
 cases d with
 | none=>rfl
 | some t =>
  funext k
  have:=h t rfl
  simp only[ES.put,ES.T,Env.put]
  rw[cE.nq _ _ _ _ _ _ (by simp[deep];omega)]
noncomputable def Gt (v:V) (eff:bp) (rd:List Nat) (s:ES):Option (V × ES × Rec):=match eff with
 | .none=>some (v,s,⟨rd,[],false,s.n,s.n⟩)
 | .new o=>match Nat.ble s.n 8000 with
  | true=>some (v,⟨s.L,s.H.put .dead o deep s.n,s.n+1,s.w⟩,⟨rd,[],false,s.n,s.n+1⟩)
  | false=>none
 | .fi id o=>match Nat.ble id 8000 with
  | true=>some (v,⟨s.L,s.H.put .dead o deep id,s.n,id :: s.w⟩,⟨rd,[id],false,s.n,s.n⟩)
  | false=>none
 | .eU id o=>match Nat.ble s.n 8000,Nat.ble id 8000 with
  | true,true=>some (v,⟨s.L,(s.H.put .dead .dead deep id).put .dead o deep s.n,s.n+1,id :: s.w⟩,⟨rd,[id],false,s.n,s.n+1⟩)
  | _,_=>none
noncomputable def Tl (x:SX) (_:Program) (T:Env) (_:View) (_:Nat):Out:=some (x.at T,.none,[])
noncomputable def S9 (c a b:SX) (_:Program) (T:Env) (_:View) (_:Nat):Out:=match c.at T with
 | .val (.bool t)=>some (if t then a.at T else b.at T,.none,[])
 | _=>none
noncomputable def SH (sz:Option Nat) (a:SX) (_:Program) (T:Env) (H:View) (_:Nat):Out:=we sz (a.at T) H
noncomputable def Sk (sz:Nat) (a x:SX) (_:Program) (T:Env) (H:View) (_:Nat):Out:=A9 sz (a.at T) (x.at T) H
noncomputable def SZ (off:Nat) (x:SX) (_:Program) (T:Env) (_:View) (_:Nat):Out:=y0 off (x.at T)
noncomputable def TA (sz:Nat) (x i:SX) (_:Program) (T:Env) (_:View) (_:Nat):Out:=CS sz (x.at T) (i.at T)
noncomputable def Tq (x:SX) (_:Program) (T:Env) (_:View) (_:Nat):Out:=(cd (x.at T)).map λn=>(fO n,.none,[])
noncomputable def R8 (op:BinOp) (x y:SX) (_:Program) (T:Env) (_:View) (_:Nat):Out:=yF op (x.at T) (y.at T)
noncomputable def Tt (op:BinOp) (x y:SX) (_:Program) (T:Env) (_:View) (_:Nat):Out:=AN op (x.at T) (y.at T)
noncomputable def TY (x:SX) (_:Program) (T:Env) (_:View) (_:Nat):Out:=match x.at T with
 | .val (.bool t)=>some (.val (.bool (!t)),.none,[])
 | _=>none
noncomputable def TE (i:Nat) (x:SX) (_:Program) (T:Env) (_:View) (_:Nat):Out:=match x.at T with
 | .aY vs=>if i < vs.length then some (vs.getD i .any,.none,[]) else none
 | _=>none
noncomputable def SJ (x:SX) (_:Program) (T:Env) (_:View) (_:Nat):Out:=match x.at T with
 | .ptr id i j=>some (.ptr id i j,.none,[])
 | .aJ e j=>some (.aJ e j,.none,[])
 | .fn f a b=>some (.fn f a b,.none,[])
 | _=>none
noncomputable def eI (s:SI):Program->Env->View->Nat->Out:=match s with
 | .eU x=>Tl x
 | .pick c a b=>S9 c a b
 | .load sz a=>SH sz a
 | .store sz a x=>Sk sz a x
 | .addr o x=>SZ o x
 | .idx sz x i=>TA sz x i
 | .len x=>Tq x
 | .arith op x y=>R8 op x y
 | .xg op x y=>Tt op x y
 | .not x=>TY x
 | .ext i x=>TE i x
 | .Aj x=>SJ x
 | s=>λP T H n=>sI P s T H n
theorem KI (s:SI) (P:Program) (T:Env) (H:View) (n:Nat):eI s P T H n=sI P s T H n:=by
 cases s <;> rfl
abbrev iq:=FuncId->List V->ES->Option (V × ES)
noncomputable def Nf (P:Program) (s:SI) (e:ES):Option (V × ES × Rec):=match eI s P e.T e.V e.n with
 | some (v,eff,rd)=>Gt v eff rd e
 | none=>none
noncomputable def MG (call:iq) (f:SX) (args:List SX) (e:ES):Option (V × ES × Rec):=match f.at e.T with
 | .fn g first cap=>match call g (first ++ args.map (SX.at e.T) ++ cap) e with
  | some (v,e')=>some (v,⟨e.L,e'.H,e'.n,e'.w ++ e.w⟩,⟨[],e'.w,true,e.n,e'.n⟩)
  | none=>none
 | _=>none
noncomputable def eB (P:Program) (call:iq) (b:SB):ES->Option (V × ES × Rec):=match b with
 | .op s=>Nf P s
 | .call f args=>MG call f args
 | .oG ..=>λ_=>none
noncomputable def JF (P:Program) (call:iq):List (Option Nat × SB)->List Rec->ES->Option (ES × List Rec)
 | [],a,e=>some (e,a)
 | (d,b) :: r,a,e=>match eB P call b e with
  | some (v,e',c)=>JF P call r (a ++ [c]) (e'.put d v)
  | none=>none
noncomputable def Qt (e:ES):Rec:=⟨[],[],false,e.n,e.n⟩
noncomputable def wa:List (Option Nat × SB)->List Rec->ES->ES × List Rec
 | [],a,e=>(e,a)
 | (d,_) :: r,a,e=>wa r (a ++ [Qt e]) (e.put d (.aY []))
noncomputable def L4 (P:Program) (call:iq) (ops:List (Option Nat × SB)) (want:Bool) (v:V) (a:List Rec) (e:ES):Option (ES × List Rec):=match v with
 | .val (.bool b)=>match xor b want with
  | true=>some (wa ops a e)
  | false=>JF P call ops a e
 | .aY []=>some (wa ops a e)
 | _=>none
noncomputable def eG (P:Program) (call:iq) (g:SG) (a:List Rec) (e:ES):Option (ES × List Rec):=match g.guard with
 | none=>JF P call g.ops a e
 | some (d,want)=>L4 P call g.ops want (e.T d) a e
noncomputable def L3 (P:Program) (call:iq):List SG->List Rec->ES->Option (ES × List Rec)
 | [],a,e=>some (e,a)
 | g :: r,a,e=>match eG P call g a e with
  | some (e',a')=>L3 P call r a' e'
  | none=>none
inductive DC where
 | skip
 | region (ps:List (Nat × Nat)) (gs:List SG)
 | seq (x y:DC)
 | cond (c:SX) (x y:DC)
 | block (id:Nat) (c:DC)
 | loop (c:DC)
 | exit (id:Nat)
 | ret
 deriving Inhabited
def ND (recs:List Rec) (ps:List (Nat × Nat)):Bool:=ps.all λ(i,k)=>match recs[i]?,recs[k]? with
 | some a,some b=>CY a b
 | _,_=>false
abbrev ER:=Option (Exit × ES)
abbrev xj:=DC->ES->ER
noncomputable def N0:ES->ER:=λe=>some (.normal,e)
noncomputable def Jj (P:Program) (call:iq) (ps:List (Nat × Nat)) (gs:List SG) (e:ES):ER:=match L3 P call gs [] e with
 | some (e',recs)=>match ND recs ps with
  | true=>some (.normal,e')
  | false=>none
 | none=>none
noncomputable def R5 (run:xj) (x y:DC) (e:ES):ER:=match run x e with
 | some (.normal,e')=>run y e'
 | r=>r
noncomputable def QH (run:xj) (c:SX) (x y:DC) (e:ES):ER:=match c.at e.T with
 | .val (.bool true)=>run x e
 | .val (.bool false)=>run y e
 | _=>none
noncomputable def MZ (run:xj) (id:Nat) (c:DC) (e:ES):ER:=match run c e with
 | some (r,e')=>some (pX id r,e')
 | none=>none
noncomputable def Qs (run:xj) (c:DC) (e:ES):ER:=match run c e with
 | some (.normal,e')=>run (.loop c) e'
 | r=>r
noncomputable def mj (P:Program) (call:iq) (run:xj) (c:DC):ES->ER:=match c with
 | .skip=>N0
 | .region ps gs=>Jj P call ps gs
 | .seq x y=>R5 run x y
 | .cond c x y=>QH run c x y
 | .block id c=>MZ run id c
 | .loop c=>Qs run c
 | .exit id=>λe=>some (.exit id,e)
 | .ret=>λe=>some (.ret,e)
noncomputable def PD (r:SR) (e:ES):Option V:=match r with
 | .tmp t=>some (e.T t)
 | .cell t sz=>match e.T t with
  | .ptr id i j=>match e.V id with
   | .arr _ es=>if i < es.length then mq sz (es.getD i []) j else none
   | _=>none
  | .aJ e j=>mq sz e j
  | _=>none
noncomputable def wW:List SR->ES->Option (List V)
 | [],_=>some []
 | r :: l,e=>match PD r e,wW l e with
  | some v,some vs=>some (v :: vs)
  | _,_=>none
noncomputable def na:List V->Nat->cE V->cE V
 | [],_,t=>t
 | v :: vs,i,t=>na vs (i+1) (t.put .any v deep i)
structure DF where
 code:DC
 res:List SR
 n:Nat
noncomputable def Sv (l:List SR) (r:ER):Option (V × ES):=match r with
 | some (.ret,e)=>(wW l e).map λvs=>(wg vs,e)
 | some (.normal,e)=>(wW l e).map λvs=>(wg vs,e)
 | _=>none
noncomputable def R4 (m:Nat) (r:Option (V × ES)):Option (V × ES):=match r with
 | some (v,e)=>some (v,⟨e.L,e.H,e.n,e.w.filter λid=>Nat.blt id m⟩)
 | none=>none
noncomputable def R6 (run:xj) (F:DF) (vs:List V) (e:ES):Option (V × ES):=match Nat.ble vs.length F.n,Nat.ble F.n 8000 with
 | true,true=>R4 e.n (Sv F.res (run F.code ⟨na vs 0 .nil,e.H,e.n,[]⟩))
 | _,_=>none
abbrev yJ:=FuncId->List V->View->Option V
noncomputable def Ff (P:Program) (tab:List (FuncId × DF)) (ext:yJ) (run:xj) (g:FuncId) (vs:List V) (e:ES):Option (V × ES):=match ext g vs e.V with
 | some t=>some (t,⟨e.L,e.H,e.n,[]⟩)
 | none=>match tab.find? (λp=>Nat.beq p.1 g) with
  | some (_,F)=>R6 run F vs e
  | none=>none
noncomputable def Ge (P:Program) (tab:List (FuncId × DF)) (ext:yJ):Nat->xj
 | 0=>λ_ _=>none
 | k+1=>mj P (Ff P tab ext (Ge P tab ext k)) (Ge P tab ext k)
def A7 (all:List Oper) (ls:List Nat):List (Nat × Nat) :=
 let b:=fF all []
 (ls.zipIdx.map λ(x,i)=>(ls.zipIdx.filter λ(y,k)=>decide (i < k) && !(ordered b i k || x == 0 || y == 0 || (decide (x<=1) && decide (y<=1)))).map λ(_,k)=>(i,k)).flatten
def FP (P:Program) (n:Nat) (fz:List Nat) (ops:List Oper) (draw:Bool):Option DC:=match dG P n ops ⟨fz,false⟩ ops with
 | none=>none
 | some l=>if !(group l).all tB then none else
  if draw then (if lY ops then some (.region (A7 ops (l.map λs=>iS P false s.b)) (group l)) else none) else some (.region [] (group l))
def jn (P:Program) (n:Nat) (fz:List Nat):Code->Option DC
 | .skip=>some .skip
 | .region _ ops draw=>FP P n fz ops.toList draw
 | .seq x y=>match jn P n fz x,jn P n fz y with
  | some a,some b=>some (.seq a b)
  | _,_=>none
 | .cond c x y=>match jn P n fz x,jn P n fz y with
  | some a,some b=>some (.cond (SX.of c) a b)
  | _,_=>none
 | .block id c=>(jn P n fz c).map (.block id)
 | .loop c=>(jn P n fz c).map .loop
 | .exit id=>some (.exit id)
 | .ret=>some .ret
 | _=>none
abbrev Ut (l:List (Option Nat × SB)):DC:=.region [] [⟨none,l⟩]
def Hs (P:Program) (f:FuncId) (fz:List Nat):Option DF:=match P.funcs[f]? with
 | some fn=>match fn.body with
  | some c=>match jn P fn.ntmps fz c,fI P fn.results.toList,dE P f with
   | some sc,some rs,true=>some ⟨sc,rs,fn.ntmps⟩
   | _,_,_=>none
  | none=>none
 | none=>none
end Gv

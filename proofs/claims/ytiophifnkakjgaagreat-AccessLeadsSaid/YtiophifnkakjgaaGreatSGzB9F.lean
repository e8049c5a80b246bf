/-
  Part 6 of the proof: what the machine does and what the functions answer.
  Conditions: those that each lemma names.
-/
import Derived.Test.YtiophifnkakjgaaGreatSGzB9E
set_option linter.unusedSimpArgs false
set_option linter.unusedVariables false
set_option maxRecDepth 100000
set_option maxHeartbeats 20000000
namespace Gv
open Go Go.Proofs
structure Term where
 name:ByteArray
 level:Int
 assoc:Int
structure ba where
 left:Int
 right:List Int
 prec:Int
structure ai where
 au:List Term
 ak:List ByteArray
 rules:List ba
 start:Int
instance:Inhabited Term:=⟨⟨.empty,0,0⟩⟩
instance:Inhabited ba:=⟨⟨0,[],0⟩⟩
def dq (t:Term):List V:=[gs t.name,gi t.level,gi t.assoc]
def aK (r:ba):List V:=[gi r.left,encI r.right,gi r.prec]
def encS (l:List ByteArray):V:=.aW (l.map λs=>[gs s])
def ag (g:ai):List V:=[.aW (g.au.map dq),encS g.ak,.aW (g.rules.map aK),gi g.start]
theorem ep {α:Type} (l:List α) (f:α->List V) (h:∀ x∈l,∀ v∈f x,Tree v):Tree (.aW (l.map f)):=by
 refine .aW _ λi j hi a=>?_
 simp only[Vx] at hi
 have e:(l.map f).getD i []=f l[i]:=by simp[Vp,hi]
 rw[e] at a ⊢
 have b:(f l[i]).getD j .any=(f l[i])[j]:=by simp[Vp,a]
 rw[b]
 exact h _ (Vw _) _ (Vw _)
theorem bW (cs:List V) (h:∀ v∈cs,Tree v):Tree (.agg cs):=by
 refine .agg _ λi hi=>?_
 have a:cs.getD i .any=cs[i]:=by simp[Vp,hi]
 rw[a];exact h _ (Vw _)
theorem ze (l:List ByteArray):Tree (encS l):=ep _ _ λx _ v a=>by simp at a;subst a;exact .val _
theorem tF (t:Term):∀ v∈dq t,Tree v:=by intro v a;simp[dq] at a;rcases a with rfl | rfl | rfl <;> exact .val _
theorem fS (r:ba):∀ v∈aK r,Tree v:=by
 intro v a;simp[aK] at a;rcases a with rfl | rfl | rfl
 .exact .val _
 .exact bI _
 .exact .val _
theorem cw (g:ai):∀ v∈ag g,Tree v:=by
 intro v a;simp[ag] at a;rcases a with rfl | rfl | rfl | rfl
 .exact ep _ _ λx _=>tF x
 .exact ze _
 .exact ep _ _ λx _=>fS x
 .exact .val _
def bS (x:Int):Prop:=-9223372036854775808<=x/\x<=9223372036854775807
structure ai.Ok (g:ai):Prop where
 au:aI g.au
 ak:aI g.ak
 rules:aI g.rules
 start:bS g.start
 term:∀ t∈g.au,bS t.level/\bS t.assoc
 az:∀ r∈g.rules,bS r.left/\bS r.prec/\aI r.right/\∀ x∈r.right,bS x
def dw (g:ai) (s:Int):Bool:=if 0<=s then decide (s < g.au.length) else decide (-1 - s < g.ak.length)
def rL:SF:=⟨af [ae [cE 2 0,bm 4 false],af [ae [aa 5 1,aF 6 .geq 5 0],aZ 6 (af [ae [aa 7 1,av 8 0 2,al 9 8,aN 10 9,aS 11 .lss 7 10,aa 4 11],.ret])],ae [aa 12 1,((some 13),.op (.arith .sub (.val (.val (.int .i64 (-1)))) (.tmp 12))),av 14 1 2,al 15 14,aN 16 15,aS 17 .lss 13 16,aa 4 17],.ret],
 [.tmp 4],18⟩
theorem v8:aM Tryz.prog 74 [2]=some rL:=by kernel_rfl
theorem S3 (g:ai) (s:Int) (a:bS s) (H:View):aw Tryz.prog 74 [.agg (ag g),gi s] H λr H'=>r=gb (dw g s)/\H'=H:=by
 refine aw.of mixed v8 ?_
 obtain⟨h1,b⟩:=a
 simp(disch:=omega)only[↓wr,seval,wq,rL,ag,encS]
 apply aj.dec<;>intro h
 .simp(disch:=omega)only[↓wr,seval,wq]
  simp[dw,show (0:Int)<=s from h]
 .simp(disch:=omega)only[↓wr,seval,wq]
  simp[dw,show ¬ (0:Int)<=s from h]
theorem NG (g:ai) (s:Int) (b:bS s):aB Tryz.prog 74 [.agg (ag g),gi s] (gb (dw g s)) :=
 aB.of (by
  intro v a;simp at a
  rcases a with rfl | rfl
  .exact bW _ (cw g)
  .exact .val _) ((S3 g s b _).mono λr H' h c _=>by rw[h.1];exact .tree _ (.val _))
def oE (g:ai):Bool:=decide (40 < g.au.length) || decide (40 < g.ak.length) || decide (60 < g.rules.length) || g.rules.any λr=>decide (20 < r.right.length)
def mZ:SC :=
 af [af [ae [aa 20 3,av 21 2 1,al 22 21,aN 23 22,aS 24 .lss 20 23],bO 24 (.exit 0)],.block 1 (af [ae [av 27 2 1,al 28 27,aa 29 3,aL 30 3 28 29,av 31 1 30,al 32 31,aN 33 32,aF 34 .gtr 33 20],aZ 34 (af [ae [bm 2 true],.ret])]),ae [aa 25 3,aF 26 .add 25 1,aa 3 26]]
def pF:SF:=⟨af [ae [cE 1 0,bm 2 false],af [.region false [⟨none,[av 4 0 1,al 5 4,aN 6 5,aF 7 .gtr 6 40,aa 8 7]⟩,⟨(some (8,false)),[av 9 1 1,al 10 9,aN 11 10,aF 12 .gtr 11 40]⟩,⟨none,[cx 13 8 12,aa 14 13]⟩,⟨(some (14,false)),[av 15 2 1,al 16 15,aN 17 16,aF 18 .gtr 17 60]⟩,⟨none,[cx 19 14 18]⟩],aZ 19 (af [ae [bm 2 true],.ret])],af [ae [aP 3 0],bR 0 mZ],ae [bm 2 false],.ret],
 [.tmp 2],35⟩
theorem uy:aM Tryz.prog 14 [1]=some pF:=by kernel_rfl
theorem PW (g:ai) (H:View):aw Tryz.prog 14 [.agg (ag g)] H λr H'=>r=gb (oE g)/\H'=H:=by
 refine aw.of mixed uy ?_
 simp(disch:=omega)only[↓wr,seval,wq,pF,ag,encS]
 apply aj.dec<;>intro h1
 .simp(disch:=omega)only[↓wr,seval,wq]
  simp[oE,show 40 < g.au.length by omega]
 .simp(disch:=omega)only[↓wr,seval,wq]
  apply aj.dec<;>intro d
  .simp(disch:=omega)only[↓wr,seval,wq]
   simp[oE,show 40 < g.ak.length by omega]
  .simp(disch:=omega)only[↓wr,seval,wq]
   apply aj.dec<;>intro f
   .simp(disch:=omega)only[↓wr,seval,wq]
    simp[oE,show 60 < g.rules.length by omega]
   .simp(disch:=omega)only[↓wr,seval,wq]
    refine aR.intro (λk T H'=>∃ i:Nat,i+k=g.rules.length/\(∀ r∈g.rules.take i,¬ 20 < r.right.length)/\T 1=.aJ (ag g) 0/\T 3=gi i/\H'=H) g.rules.length ?_ ?_
    .exact⟨0,by omega,by simp,rfl,rfl,rfl⟩
    .rintro k T H' ⟨i,hk,hi,a,b,rfl⟩
     simp(disch:=omega)only[↓wr,seval,wq,mZ,a,b,ag]
     apply aj.dec<;>intro h
     .have c:g.rules[i]?=some (g.rules[i]'(by omega)):=Vq (by omega)
      simp(disch:=omega)only[↓wr,seval,wq,a,b,ag,aK,encI,Vt,c,VE]
      apply aj.dec<;>intro j
      .simp(disch:=omega)only[↓wr,seval,wq]
       have:g.rules.any (λr=>decide (20 < r.right.length))=true:=by
        simp only[W5,VH]
        exact⟨g.rules[i]'(by omega),Vw _,by omega⟩
       simp[oE,this]
      .simp(disch:=omega)only[↓wr,seval,wq,a,b]
       refine⟨k - 1,by omega,i+1,by omega,?_,rfl,rfl⟩
       intro r hr
       rw[VP,c] at hr
       simp only[Option.toList_some,VM,Wu] at hr
       rcases hr with hr | rfl
       .exact hi r hr
       .omega
     .simp(disch:=omega)only[↓wr,seval,wq,a,b]
      have e:i=g.rules.length:=by omega
      rw[VG (by omega)] at hi
      have:g.rules.any (λr=>decide (20 < r.right.length))=false:=by
       simp only[List.any_eq_false,VH];exact hi
      simp only[oE,this]
      simp;omega
def gj (l:List Int) (is:List Bool) (au:Bool):Bool:=l.all λs=>if 0<=s then au else is.getD (-1 - s).toNat false
def pj:SC :=
 af [af [ae [aa 8 7,aa 9 0,aN 10 9,aS 11 .lss 8 10],bO 11 (.exit 0)],.block 1 (af [.region false [⟨none,[aa 14 0,aa 15 7,aL 16 1 14 15,al 17 16,aF 18 .geq 17 0,aa 19 18]⟩,⟨(some (19,true)),[aa 20 2,c5 21 20]⟩,⟨none,[eV 22 19 21,aa 23 22]⟩,⟨(some (23,false)),[aa 24 0,aa 25 7,aL 26 1 24 25,al 27 26,aF 28 .lss 27 0,aa 29 28]⟩,⟨(some (29,true)),[aa 30 1,aa 31 0,aa 32 7,aL 33 1 31 32,al 34 33,((some 35),.op (.arith .sub (.val (.val (.int .i64 (-1)))) (.tmp 34))),aL 36 1 30 35,al 37 36,c5 38 37]⟩,⟨(some (23,false)),[eV 39 29 38]⟩,⟨none,[cx 40 23 39]⟩],aZ 40 (af [ae [bm 6 false],.ret])]),ae [aa 12 7,aF 13 .add 12 1,aa 7 13]]
def rG:SF:=⟨af [ae [bm 6 false],af [ae [aP 7 0],bR 0 pj],ae [bm 6 true],.ret],
 [.tmp 6],41⟩
theorem wV:aM Tryz.prog 95 []=some rG:=by kernel_rfl
theorem TC (l:List Int) (is:List Bool) (t:Bool) (p:aI l) (q:∀ s∈l,bS s/\(s < 0->-1 - s < is.length)) (H:View) :
  aw Tryz.prog 95 [encI l,b5 is,gb t] H λr H'=>r=gb (gj l is t)/\H'=H:=by
 refine aw.of mixed wV ?_
 unfold aI at p
 simp(disch:=omega)only[↓wr,seval,wq,rG]
 refine aR.intro (λk T H'=>∃ i:Nat,i+k=l.length/\gj (l.take i) is t=true/\T 0=encI l/\T 1=b5 is/\T 2=gb t/\T 7=gi i/\H'=H) l.length ?_ ?_
 .exact⟨0,by omega,by simp[gj],rfl,rfl,rfl,rfl,rfl⟩
 .rintro k T H' ⟨i,hk,hi,d,h1,f,g,rfl⟩
  simp(disch:=omega)only[↓wr,seval,wq,pj,d,h1,f,g,encI]
  apply aj.dec<;>intro u
  .have h:l[i]?=some (l[i]'(by omega)):=Vq (by omega)
   have hm:l[i]'(by omega)∈l:=Vw _
   generalize l[i]'(by omega)=s at h hm
   obtain⟨⟨v,w⟩,x⟩:=q s hm
   have a:gj (l.take (i+1)) is t=(if 0<=s then t else is.getD (-1 - s).toNat false):=by
    rw[VP,h]
    simp only[gj,Option.toList_some,Xx,WR,List.all_nil,Bool.and_true] at hi ⊢
    rw[hi,Wd]
   have c:(if 0<=s then t else is.getD (-1 - s).toNat false)=false->gj l is t=false:=by
    intro j
    simp only[gj,Xo]
    exact⟨s,hm,by simpa using j⟩
   simp(disch:=omega)only[↓wr,seval,wq,d,h1,f,g,encI,Vt,h,VE]
   apply aj.dec<;>intro n
   .rw[Vu (show 0<=s from n)] at a c
    cases t with
    | true =>
     simp(disch:=omega)only[↓wr,seval,wq,d,h1,f,g,encI,Vt,h,VE]
     refine aj.dec (λm=>absurd m (by omega)) (λ_=>?_)
     simp(disch:=omega)only[↓wr,seval,wq,d,h1,f,g,encI,b5,Vt,h,VE]
     exact⟨k - 1,by omega,i+1,by omega,a,rfl⟩
    | false =>
     simp(disch:=omega)only[↓wr,seval,wq,d,h1,f,g,encI,Vt,h,VE]
     rw[c rfl]
   .rw[Vs (show ¬ 0<=s from n)] at a c
    simp(disch:=omega)only[↓wr,seval,wq,d,h1,f,g,encI,Vt,h,VE]
    refine aj.dec (λm=>?_) (λm=>absurd m (by omega))
    have j:is[(-1 - s).toNat]?=some (is[(-1 - s).toNat]'(by omega)):=Vq (by omega)
    have o:is.getD (-1 - s).toNat false=is[(-1 - s).toNat]'(by omega):=by simp[Vp,j]
    rw[o] at a c
    generalize is[(-1 - s).toNat]'(by omega)=b at j a c
    simp(disch:=omega)only[↓wr,seval,wq,d,h1,f,g,encI,b5,Vt,h,j,VE]
    cases b with
    | true =>
     simp(disch:=omega)only[↓wr,seval,wq,d,h1,f,g,encI,b5,Vt,h,j,VE]
     exact⟨k - 1,by omega,i+1,by omega,a,rfl⟩
    | false =>
     simp(disch:=omega)only[↓wr,seval,wq,d,h1,f,g,encI,b5,Vt,h,j,VE]
     rw[c rfl]
  .simp(disch:=omega)only[↓wr,seval,wq,d,h1,f,g]
   have e:i=l.length:=by omega
   rw[VG (by omega)] at hi
   rw[hi]
abbrev gy (x:Int):V:=.val (.int .u8 x)
def vo (c:Int):Bool:=(decide (97<=c) && decide (c<=122)) || (decide (65<=c) && decide (c<=90)) || c == 95
def oD (c:Int):Bool:=vo c || (decide (48<=c) && decide (c<=57)) || c == 46
def pt:SF:=⟨af [ae [bm 2 false],.region false [⟨none,[aa 3 0,((some 4),.op (.arith .geq (.tmp 3) (.val (.val (.int .u8 97))))),aa 5 4]⟩,⟨(some (5,true)),[aa 6 0,((some 7),.op (.arith .leq (.tmp 6) (.val (.val (.int .u8 122)))))]⟩,⟨none,[eV 8 5 7,aa 9 8]⟩,⟨(some (9,false)),[aa 10 0,((some 11),.op (.arith .geq (.tmp 10) (.val (.val (.int .u8 65))))),aa 12 11]⟩,⟨(some (12,true)),[aa 13 0,((some 14),.op (.arith .leq (.tmp 13) (.val (.val (.int .u8 90)))))]⟩,⟨(some (9,false)),[eV 15 12 14]⟩,⟨none,[cx 16 9 15,aa 17 16]⟩,⟨(some (17,false)),[aa 18 0,((some 19),.op (.arith .eql (.tmp 18) (.val (.val (.int .u8 95)))))]⟩,⟨none,[cx 20 17 19,aa 2 20]⟩],.ret],
 [.tmp 2],21⟩
theorem ui:aM Tryz.prog 233 []=some pt:=by kernel_rfl
def pE:SF:=⟨af [ae [bm 2 false],.region false [⟨none,[aa 3 0,bf 4 233 [3],aa 5 4]⟩,⟨(some (5,false)),[aa 6 0,((some 7),.op (.arith .geq (.tmp 6) (.val (.val (.int .u8 48))))),aa 8 7]⟩,⟨(some (8,true)),[aa 9 0,((some 10),.op (.arith .leq (.tmp 9) (.val (.val (.int .u8 57)))))]⟩,⟨(some (5,false)),[eV 11 8 10]⟩,⟨none,[cx 12 5 11,aa 13 12]⟩,⟨(some (13,false)),[aa 14 0,((some 15),.op (.arith .eql (.tmp 14) (.val (.val (.int .u8 46)))))]⟩,⟨none,[cx 16 13 15,aa 2 16]⟩],.ret],
 [.tmp 2],17⟩
theorem ue:aM Tryz.prog 234 []=some pE:=by kernel_rfl
theorem Qp (c:Int) (H:View):aw Tryz.prog 233 [gy c] H λr H'=>r=gb (vo c)/\H'=H:=by
 refine aw.of mixed ui ?_
 repeat' (first | ((first|apply aj.dec|apply aj.eq|apply aj.ne|apply aj.split)<;>intro)|(simp(disch:=omega)only[↓wr,seval,wq,pt]))
 all_goals (congr 2;simp only[vo];grind)
theorem HO (c:Int):aB Tryz.prog 233 [gy c] (gb (vo c)) :=
 aB.of (by intro v a;simp at a;subst a;exact .val _) ((Qp c _).mono λr H' h b _=>by rw[h.1];exact .tree _ (.val _))
theorem PT (c:Int) (H:View):aw Tryz.prog 234 [gy c] H λr H'=>r=gb (oD c)/\H'=H:=by
 refine aw.of mixed ue ?_
 repeat' (first | ((first|apply aj.dec|apply aj.eq|apply aj.ne|apply aj.split)<;>intro)|(simp(disch:=omega)only[↓wr,seval,wq,pE]))
 refine ax.pure (HO c) ?_
 repeat' (first | ((first|apply aj.dec|apply aj.eq|apply aj.ne|apply aj.split)<;>intro)|(simp(disch:=omega)only[↓wr,seval,wq]))
 all_goals (congr 2;simp only[oD];grind)
theorem Qb (c:Int):aB Tryz.prog 234 [gy c] (gb (oD c)) :=
 aB.of (by intro v a;simp at a;subst a;exact .val _) ((PT c _).mono λr H' h b _=>by rw[h.1];exact .tree _ (.val _))
def gN (l:List Int):Bool:=decide (0 < l.length) && decide (l.length<=20) && (match l with | c :: _=>vo c | []=>false) && l.all oD
def oh:SC :=
 af [af [ae [aa 18 3,aa 19 0,((some 20),.op (.pM (.tmp 19))),aS 21 .lss 18 20],bO 21 (.exit 0)],.block 1 (af [ae [aa 24 0,aa 25 3,((some 26),.op (.iv (.tmp 24) (.tmp 25))),bf 27 234 [26],c5 28 27],aZ 28 (af [ae [bm 2 false],.ret])]),ae [aa 22 3,aF 23 .add 22 1,aa 3 23]]
def qZ:SF:=⟨af [ae [bm 2 false],af [.region false [⟨none,[aa 4 0,((some 5),.op (.pM (.tmp 4))),aF 6 .eql 5 0,aa 7 6]⟩,⟨(some (7,false)),[aa 8 0,((some 9),.op (.pM (.tmp 8))),aF 10 .gtr 9 20]⟩,⟨none,[cx 11 7 10,aa 12 11]⟩,⟨(some (12,false)),[aa 13 0,((some 14),.op (.iv (.tmp 13) (.val (.val (.int .i64 0))))),bf 15 233 [14],c5 16 15]⟩,⟨none,[cx 17 12 16]⟩],aZ 17 (af [ae [bm 2 false],.ret])],af [ae [aP 3 0],bR 0 oh],ae [bm 2 true],.ret],
 [.tmp 2],29⟩
theorem vh:aM Tryz.prog 172 []=some qZ:=by kernel_rfl
theorem Oo (s:ByteArray) (H:View):aw Tryz.prog 172 [gs s] H λr H'=>r=gb (gN (fH s))/\H'=H:=by
 refine aw.of mixed vh ?_
 repeat' (first | ((first|apply aj.dec|apply aj.eq|apply aj.ne|apply aj.split)<;>intro)|(simp(disch:=omega)only[↓wr,seval,wq,qZ,eR]))
 .rename_i h
  congr 2;simp[gN,show (fH s).length=0 by omega]
 .rename_i h
  congr 2;simp[gN,show ¬ (fH s).length<=20 by omega]
 .rename_i h1 g
  cases a:fH s with
  | nil=>simp[a] at h1
  | cons c l =>
   repeat' (first | ((first|apply aj.dec|apply aj.eq|apply aj.ne|apply aj.split)<;>intro)|(simp(disch:=omega)only[↓wr,seval,wq,a,VV,eR]))
   refine ax.pure (HO c) ?_
   repeat' (first | ((first|apply aj.dec|apply aj.eq|apply aj.ne|apply aj.split)<;>intro)|(simp(disch:=omega)only[↓wr,seval,wq,a,VV,eR]))
   .rename_i j
    refine aR.intro (λk T H'=>∃ i:Nat,i+k=(c :: l).length/\((c :: l).take i).all oD=true/\T 0=gs s/\T 3=gi i/\H'=H) (c :: l).length ?_ ?_
    .exact⟨0,by omega,by simp,rfl,rfl,rfl⟩
    .rintro k T H' ⟨i,hk,hi,b,e,rfl⟩
     rw[a] at h1 g
     simp(disch:=omega)only[↓wr,seval,wq,oh,b,e,eR,a]
     apply aj.dec<;>intro m
     .simp only[Vz] at m hk g
      have f:(c :: l)[i]?=some ((c :: l)[i]'(by simp;omega)):=Vq (by simp;omega)
      have hm:(c :: l)[i]'(by simp;omega)∈c :: l:=Vw _
      generalize (c :: l)[i]'(by simp;omega)=d at f hm
      simp(disch:=omega)only[↓wr,seval,wq,b,e,eR,a,f]
      refine ax.pure (Qb d) ?_
      repeat' (first | ((first|apply aj.dec|apply aj.eq|apply aj.ne|apply aj.split)<;>intro)|(simp(disch:=omega)only[↓wr,seval,wq,b,e,eR,a,f]))
      .rename_i n
       refine⟨k - 1,by omega,i+1,by omega,?_,rfl⟩
       rw[VP,f]
       simp only[Option.toList_some,Xx,hi,WR,n,List.all_nil,Bool.and_self]
      .rename_i n
       congr 2
       have:(c :: l).all oD=false:=by
        rw[Xo];exact⟨d,hm,by simp[n]⟩
       simp only[gN,this,WV]
     .simp(disch:=omega)only[↓wr,seval,wq,b,e]
      simp only[Vz] at m hk g
      rw[VG (by simp;omega)] at hi
      congr 2
      simp only[gN,hi,Vz]
      simp[j];omega
   .rename_i j
    congr 2;simp[gN,j]
def mP:List Int->Bool
 | [a,b,c]=>a == 39 && c == 39 && decide (32<=b) && decide (b<=126) && b != 39 && b != 92
 | [a,b,c,d]=>a == 39 && d == 39 && b == 92 && (c == 110 || c == 116 || c == 92 || c == 39)
 | _=>false
theorem PV {l:List Int} (a:l.length≠3) (b:l.length≠4):mP l=false:=by
 match l,a,b with
 | [],_,_=>rfl
 | [_],_,_=>rfl
 | [_,_],_,_=>rfl
 | [_,_,_],a,_=>exact absurd rfl a
 | [_,_,_,_],_,b=>exact absurd rfl b
 | _ :: _ :: _ :: _ :: _ :: _,_,_=>rfl
theorem UY {α:Type} {l:List α} (h:l.length=3):∃ a b c,l=[a,b,c]:=by
 match l,h with
 | [a,b,c],_=>exact⟨a,b,c,rfl⟩
theorem UH {α:Type} {l:List α} (h:l.length=4):∃ a b c d,l=[a,b,c,d]:=by
 match l,h with
 | [a,b,c,d],_=>exact⟨a,b,c,d,rfl⟩
def nr:SF:=⟨af [ae [bm 2 false],af [ae [aa 3 0,((some 4),.op (.pM (.tmp 3))),aF 5 .eql 4 3],aZ 5 (af [.region false [⟨none,[aa 6 0,((some 7),.op (.iv (.tmp 6) (.val (.val (.int .i64 0))))),((some 8),.op (.arith .eql (.tmp 7) (.val (.val (.int .u8 39))))),aa 9 8]⟩,⟨(some (9,true)),[aa 10 0,((some 11),.op (.iv (.tmp 10) (.val (.val (.int .i64 2))))),((some 12),.op (.arith .eql (.tmp 11) (.val (.val (.int .u8 39)))))]⟩,⟨none,[eV 13 9 12,aa 14 13]⟩,⟨(some (14,true)),[aa 15 0,((some 16),.op (.iv (.tmp 15) (.val (.val (.int .i64 1))))),((some 17),.op (.arith .geq (.tmp 16) (.val (.val (.int .u8 32)))))]⟩,⟨none,[eV 18 14 17,aa 19 18]⟩,⟨(some (19,true)),[aa 20 0,((some 21),.op (.iv (.tmp 20) (.val (.val (.int .i64 1))))),((some 22),.op (.arith .leq (.tmp 21) (.val (.val (.int .u8 126)))))]⟩,⟨none,[eV 23 19 22,aa 24 23]⟩,⟨(some (24,true)),[aa 25 0,((some 26),.op (.iv (.tmp 25) (.val (.val (.int .i64 1))))),((some 27),.op (.arith .neq (.tmp 26) (.val (.val (.int .u8 39)))))]⟩,⟨none,[eV 28 24 27,aa 29 28]⟩,⟨(some (29,true)),[aa 30 0,((some 31),.op (.iv (.tmp 30) (.val (.val (.int .i64 1))))),((some 32),.op (.arith .neq (.tmp 31) (.val (.val (.int .u8 92)))))]⟩,⟨none,[eV 33 29 32,aa 2 33]⟩],.ret])],.region false [⟨none,[aa 34 0,((some 35),.op (.pM (.tmp 34))),aF 36 .eql 35 4,aa 37 36]⟩,⟨(some (37,true)),[aa 38 0,((some 39),.op (.iv (.tmp 38) (.val (.val (.int .i64 0))))),((some 40),.op (.arith .eql (.tmp 39) (.val (.val (.int .u8 39)))))]⟩,⟨none,[eV 41 37 40,aa 42 41]⟩,⟨(some (42,true)),[aa 43 0,((some 44),.op (.iv (.tmp 43) (.val (.val (.int .i64 3))))),((some 45),.op (.arith .eql (.tmp 44) (.val (.val (.int .u8 39)))))]⟩,⟨none,[eV 46 42 45,aa 47 46]⟩,⟨(some (47,true)),[aa 48 0,((some 49),.op (.iv (.tmp 48) (.val (.val (.int .i64 1))))),((some 50),.op (.arith .eql (.tmp 49) (.val (.val (.int .u8 92)))))]⟩,⟨none,[eV 51 47 50,aa 52 51]⟩,⟨(some (52,true)),[aa 53 0,((some 54),.op (.iv (.tmp 53) (.val (.val (.int .i64 2))))),((some 55),.op (.arith .eql (.tmp 54) (.val (.val (.int .u8 110))))),aa 56 55]⟩,⟨(some (56,false)),[aa 57 0,((some 58),.op (.iv (.tmp 57) (.val (.val (.int .i64 2))))),((some 59),.op (.arith .eql (.tmp 58) (.val (.val (.int .u8 116)))))]⟩,⟨(some (52,true)),[cx 60 56 59,aa 61 60]⟩,⟨(some (61,false)),[aa 62 0,((some 63),.op (.iv (.tmp 62) (.val (.val (.int .i64 2))))),((some 64),.op (.arith .eql (.tmp 63) (.val (.val (.int .u8 92)))))]⟩,⟨(some (52,true)),[cx 65 61 64,aa 66 65]⟩,⟨(some (66,false)),[aa 67 0,((some 68),.op (.iv (.tmp 67) (.val (.val (.int .i64 2))))),((some 69),.op (.arith .eql (.tmp 68) (.val (.val (.int .u8 39)))))]⟩,⟨(some (52,true)),[cx 70 66 69]⟩,⟨none,[eV 71 52 70,aa 2 71]⟩],.ret],
 [.tmp 2],72⟩
theorem sx:aM Tryz.prog 232 []=some nr:=by kernel_rfl
def pG:SF:=⟨af [ae [bm 2 false],.region false [⟨none,[aa 3 0,bf 4 172 [3],aa 5 4]⟩,⟨(some (5,false)),[aa 6 0,bf 7 232 [6]]⟩,⟨none,[cx 8 5 7,aa 2 8]⟩],.ret],
 [.tmp 2],9⟩
theorem uD:aM Tryz.prog 169 []=some pG:=by kernel_rfl
theorem PL (s:ByteArray) (H:View):aw Tryz.prog 232 [gs s] H λr H'=>r=gb (mP (fH s))/\H'=H:=by
 refine aw.of mixed sx ?_
 simp(disch:=omega)only[↓wr,seval,wq,nr,eR]
 apply aj.eq<;>intro h
 .obtain⟨a,b,c,e⟩:=UY (l:=fH s) (by omega)
  repeat' (first | ((first|apply aj.dec|apply aj.eq|apply aj.ne|apply aj.split)<;>intro)|(simp(disch:=omega)only[↓wr,seval,wq,e,VV,V6]))
  all_goals (congr 2;simp only[mP];grind)
 .simp(disch:=omega)only[↓wr,seval,wq,eR]
  apply aj.eq<;>intro f
  .obtain⟨a,b,c,d,e⟩:=UH (l:=fH s) (by omega)
   repeat' (first | ((first|apply aj.dec|apply aj.eq|apply aj.ne|apply aj.split)<;>intro)|(simp(disch:=omega)only[↓wr,seval,wq,e,VV,V6]))
   all_goals (congr 2;simp only[mP];grind)
  .repeat' (first | ((first|apply aj.dec|apply aj.eq|apply aj.ne|apply aj.split)<;>intro)|(simp(disch:=omega)only[↓wr,seval,wq,eR]))
   rw[PV (by omega) (by omega)]
theorem pV (s:ByteArray):∀ v∈[gs s],Tree v:=by intro v a;simp at a;subst a;exact .val _
theorem Eh (s:ByteArray):aB Tryz.prog 172 [gs s] (gb (gN (fH s))) :=
 aB.of (pV s) ((Oo s _).mono λr H' h a _=>by rw[h.1];exact .tree _ (.val _))
theorem QQ (s:ByteArray):aB Tryz.prog 232 [gs s] (gb (mP (fH s))) :=
 aB.of (pV s) ((PL s _).mono λr H' h a _=>by rw[h.1];exact .tree _ (.val _))
def rr (l:List Int):Bool:=gN l || mP l
theorem L0 (s:ByteArray) (H:View):aw Tryz.prog 169 [gs s] H λr H'=>r=gb (rr (fH s))/\H'=H:=by
 refine aw.of mixed uD ?_
 simp(disch:=omega)only[↓wr,seval,wq,pG]
 refine ax.pure (Eh s) ?_
 repeat' (first | ((first|apply aj.dec|apply aj.eq|apply aj.ne|apply aj.split)<;>intro)|(simp(disch:=omega)only[↓wr,seval,wq]))
 .rename_i h;simp[rr,h]
 .rename_i h
  refine ax.pure (QQ s) ?_
  repeat' (first | ((first|apply aj.dec|apply aj.eq|apply aj.ne|apply aj.split)<;>intro)|(simp(disch:=omega)only[↓wr,seval,wq]))
  simp[rr,h]
theorem L5 (s:ByteArray):aB Tryz.prog 169 [gs s] (gb (rr (fH s))) :=
 aB.of (pV s) ((L0 s _).mono λr H' h a _=>by rw[h.1];exact .tree _ (.val _))
def nW (s:ByteArray):List ByteArray->Int->Int
 | [],_=>-1
 | x :: l,i=>if jb x s=true then i else nW s l (i+1)
def rV (g:ai) (s:ByteArray):Int:=nW s (g.au.map Term.name) 0
def DH (g:ai) (s:ByteArray):Int:=nW s g.ak 0
theorem dS {α:Type} {l:List α} {i:Nat} (h:i < l.length):l.drop i=l[i] :: l.drop (i+1):=Wl h
theorem G0 (g:ai) (s:ByteArray):∀ v∈[V.agg (ag g),gs s],Tree v:=by
 intro v a;simp at a
 rcases a with rfl | rfl
 .exact bW _ (cw g)
 .exact .val _
theorem eD (g:ai):∀ v∈[V.agg (ag g)],Tree v:=by intro v a;simp at a;subst a;exact bW _ (cw g)
theorem HE (g:ai) (x:Int):∀ v∈[V.agg (ag g),gi x],Tree v:=by
 intro v a;simp at a
 rcases a with rfl | rfl
 .exact bW _ (cw g)
 .exact .val _
theorem aB.val {P:Program} {f:FuncId} {vs:List V} {x:Value} (a:∀ v∈vs,Tree v) (h:∀ H,aw P f vs H λr _=>r=.val x):aB P f vs (.val x) :=
 aB.of a ((h _).mono λr H' e b _=>by rw[e];exact .tree _ (.val _))
def oS:SC :=
 af [af [ae [aa 6 5,av 7 0 2,al 8 7,aN 9 8,aS 10 .lss 6 9],bO 10 (.exit 0)],.block 1 (af [ae [av 13 0 2,al 14 13,aa 15 5,aL 16 3 14 15,av 17 0 16,al 18 17,aa 19 1,((some 20),.op (.xl .eql (.tmp 18) (.tmp 19)))],aZ 20 (af [ae [aa 21 5,aa 4 21],.ret])]),ae [aa 11 5,aF 12 .add 11 1,aa 5 12]]
def rh:SF:=⟨af [ae [cE 2 0,aP 4 0],af [ae [aP 5 0],bR 0 oS],ae [aP 4 (-1)],.ret],
 [.tmp 4],22⟩
theorem uO:aM Tryz.prog 170 [2]=some rh:=by kernel_rfl
def pn:SC :=
 af [af [ae [aa 6 5,av 7 1 2,al 8 7,aN 9 8,aS 10 .lss 6 9],bO 10 (.exit 0)],.block 1 (af [ae [av 13 1 2,al 14 13,aa 15 5,aL 16 1 14 15,al 17 16,aa 18 1,((some 19),.op (.xl .eql (.tmp 17) (.tmp 18)))],aZ 19 (af [ae [aa 20 5,aa 4 20],.ret])]),ae [aa 11 5,aF 12 .add 11 1,aa 5 12]]
def rI:SF:=⟨af [ae [cE 2 0,aP 4 0],af [ae [aP 5 0],bR 0 pn],ae [aP 4 (-1)],.ret],
 [.tmp 4],21⟩
theorem wW:aM Tryz.prog 150 [2]=some rI:=by kernel_rfl
def nK:SC :=
 af [af [ae [aa 8 6,av 9 0 2,al 10 9,aN 11 10,aS 12 .lss 8 11],bO 12 (.exit 0)],.block 1 (af [.region false [⟨none,[av 15 0 2,al 16 15,aa 17 6,aL 18 3 16 17,bb 19 3 18,((some 7),.op (.alloc [(.val (.string ⟨#[]⟩)),(.val (.int .i64 0)),(.val (.int .i64 0))])),cy 3 7 19]⟩],af [ae [av 20 1 7,al 21 20,aa 22 1,aS 23 .neq 21 22],aZ 23 (.exit 1)],af [.region false [⟨none,[aa 24 5,aF 25 .neq 24 0,aa 26 25]⟩,⟨(some (26,true)),[aa 27 5,av 28 2 7,al 29 28,aS 30 .neq 27 29]⟩,⟨none,[eV 31 26 30]⟩],aZ 31 (af [ae [bm 4 false],.ret])],ae [av 32 2 7,al 33 32,aa 5 33]]),ae [aa 13 6,aF 14 .add 13 1,aa 6 14]]
def pw:SF:=⟨af [ae [cE 2 0,bm 4 false],ae [aP 5 0],af [ae [aP 6 0],bR 0 nK],ae [aa 34 5,aF 35 .neq 34 0,aa 4 35],.ret],
 [.tmp 4],36⟩
theorem uv:aM Tryz.prog 171 [2]=some pw:=by kernel_rfl
theorem OF (g:ai) (e:g.Ok) (s:ByteArray) (H:View):aw Tryz.prog 170 [.agg (ag g),gs s] H λr _=>r=gi (rV g s):=by
 refine aw.of mixed uO ?_
 have h:g.au.length < 4611686018427387904:=e.au
 simp(disch:=omega)only[↓wr,seval,wq,rh,ag,encS]
 refine aR.intro (λk T _=>∃ i:Nat,i+k=g.au.length/\nW s ((g.au.drop i).map Term.name) i=rV g s/\T 1=gs s/\T 2=.aJ (ag g) 0/\T 5=gi i) g.au.length ?_ ?_
 .exact⟨0,by omega,rfl,rfl,rfl,rfl⟩
 .rintro k T H' ⟨i,hk,hi,h1,a,b⟩
  simp(disch:=omega)only[↓wr,seval,wq,oS,h1,a,b,ag]
  apply aj.dec<;>intro f
  .have c:g.au[i]?=some (g.au[i]'(by omega)):=Vq (by omega)
   rw[dS (show i < g.au.length by omega)] at hi
   generalize g.au[i]'(by omega)=t at c hi
   simp only[VX,nW] at hi
   simp(disch:=omega)only[↓wr,seval,wq,h1,a,b,ag,dq,Vt,c,VE]
   apply aj.split<;>intro d
   .rw[Vu d] at hi
    simp(disch:=omega)only[↓wr,seval,wq,h1,a,b]
    rw[hi]
   .rw[d,Vs (by simp)] at hi
    simp(disch:=omega)only[↓wr,seval,wq,h1,a,b]
    exact⟨k - 1,by omega,i+1,by omega,by push_cast;exact hi,rfl,rfl⟩
  .rw[VN (by omega)] at hi
   simp only[W6,nW] at hi
   simp(disch:=omega)only[↓wr,seval,wq,h1,a,b]
   rw[hi]
theorem Ej (g:ai) (a:g.Ok) (s:ByteArray):aB Tryz.prog 170 [.agg (ag g),gs s] (gi (rV g s)):=aB.val (G0 g s) (OF g a s)
theorem QW (g:ai) (e:g.Ok) (s:ByteArray) (H:View):aw Tryz.prog 150 [.agg (ag g),gs s] H λr _=>r=gi (DH g s):=by
 refine aw.of mixed wW ?_
 have h:g.ak.length < 4611686018427387904:=e.ak
 simp(disch:=omega)only[↓wr,seval,wq,rI,ag,encS]
 refine aR.intro (λk T _=>∃ i:Nat,i+k=g.ak.length/\nW s (g.ak.drop i) i=DH g s/\T 1=gs s/\T 2=.aJ (ag g) 0/\T 5=gi i) g.ak.length ?_ ?_
 .exact⟨0,by omega,rfl,rfl,rfl,rfl⟩
 .rintro k T H' ⟨i,hk,hi,h1,a,b⟩
  simp(disch:=omega)only[↓wr,seval,wq,pn,h1,a,b,ag,encS]
  apply aj.dec<;>intro f
  .have c:g.ak[i]?=some (g.ak[i]'(by omega)):=Vq (by omega)
   rw[dS (show i < g.ak.length by omega)] at hi
   generalize g.ak[i]'(by omega)=t at c hi
   simp only[VX,nW] at hi
   simp(disch:=omega)only[↓wr,seval,wq,h1,a,b,ag,encS,Vt,c,VE]
   apply aj.split<;>intro d
   .rw[Vu d] at hi
    simp(disch:=omega)only[↓wr,seval,wq,h1,a,b]
    rw[hi]
   .rw[d,Vs (by simp)] at hi
    simp(disch:=omega)only[↓wr,seval,wq,h1,a,b]
    exact⟨k - 1,by omega,i+1,by omega,by push_cast;exact hi,rfl,rfl⟩
  .rw[VN (by omega)] at hi
   simp only[W6,nW] at hi
   simp(disch:=omega)only[↓wr,seval,wq,h1,a,b]
   rw[hi]
theorem PS (g:ai) (a:g.Ok) (s:ByteArray):aB Tryz.prog 150 [.agg (ag g),gs s] (gi (DH g s)):=aB.val (G0 g s) (QW g a s)
def jv (n:Int):List Term->Int->Option Int
 | [],CP=>some CP
 | t :: r,CP=>if t.level=n then (if CP≠0/\CP≠t.assoc then none else jv n r t.assoc) else jv n r CP
def gX (l:List Term) (n:Int):Bool:=match jv n l 0 with
 | some w=>w != 0
 | none=>false
theorem K3 (g:ai) (l:g.Ok) (n:Int) (H:View):aw Tryz.prog 171 [.agg (ag g),gi n] H λr _=>r=gb (gX g.au n):=by
 refine aw.of mixed uv ?_
 have p:g.au.length < 4611686018427387904:=l.au
 simp(disch:=omega)only[↓wr,seval,wq,pw,ag,encS]
 refine aR.intro (λk T _=>∃ (i:Nat) (w:Int),i+k=g.au.length/\jv n (g.au.drop i) w=jv n g.au 0/\T 1=gi n/\T 2=.aJ (ag g) 0/\T 5=gi w/\T 6=gi i) g.au.length ?_ ?_
 .exact⟨0,0,by omega,rfl,rfl,rfl,rfl,rfl⟩
 .rintro k T H' ⟨i,w,hk,hi,h1,c,d,f⟩
  simp(disch:=omega)only[↓wr,seval,wq,nK,h1,c,d,f,ag]
  apply aj.dec<;>intro o
  .have h:g.au[i]?=some (g.au[i]'(by omega)):=Vq (by omega)
   rw[dS (show i < g.au.length by omega)] at hi
   generalize g.au[i]'(by omega)=t at h hi
   simp only[jv] at hi
   simp(disch:=omega)only[↓wr,seval,wq,h1,c,d,f,ag,dq,Vt,h,VE]
   intro m hm
   try simp(disch:=omega)only[↓wr,seval,wq,h1,c,d,f]
   apply aj.ne<;>intro j
   .rw[Vs j] at hi
    simp(disch:=omega)only[↓wr,seval,wq,h1,c,d,f]
    exact⟨k - 1,by omega,i+1,w,by omega,hi,by first | rfl | exact⟨rfl,rfl⟩ | exact⟨rfl,rfl,rfl⟩⟩
   .rw[Vu j] at hi
    repeat' (first | ((first|apply aj.dec|apply aj.eq|apply aj.ne|apply aj.split)<;>intro)|(simp(disch:=omega)only[↓wr,seval,wq,h1,c,d,f]))
    .rename_i a b
     rw[Vu ⟨a,b⟩] at hi
     simp only[gX,<-hi]
    .rename_i a b
     rw[Vs (λe=>e.2 b)] at hi
     exact⟨k - 1,by omega,i+1,_,by omega,hi,by first | rfl | exact⟨rfl,rfl⟩ | exact⟨rfl,rfl,rfl⟩⟩
    .rename_i a
     rw[Vs (λe=>e.1 a)] at hi
     exact⟨k - 1,by omega,i+1,_,by omega,hi,by first | rfl | exact⟨rfl,rfl⟩ | exact⟨rfl,rfl,rfl⟩⟩
  .rw[VN (by omega)] at hi
   simp only[jv] at hi
   simp(disch:=omega)only[↓wr,seval,wq,h1,c,d,f]
   simp only[gX,<-hi]
theorem La (g:ai) (a:g.Ok) (n:Int):aB Tryz.prog 171 [.agg (ag g),gi n] (gb (gX g.au n)):=aB.val (HE g n) (K3 g a n)
def tB (g:ai) (t:Term):Bool:=(List.range t.level.toNat).all λk=>gX g.au ((k:Int)+1)
def lq (g:ai) (i:Int) (t:Term):Bool :=
 rr (fH t.name) && (rV g t.name == i) && decide (0<=t.level) && decide (t.level<=24) && decide (0<=t.assoc) && decide (t.assoc<=3) && ((t.level == 0) == (t.assoc == 0)) && tB g t
def oJ (g:ai):List Term->Int->Bool
 | [],_=>true
 | t :: r,i=>lq g i t && oJ g r (i+1)
def lE (g:ai):Bool:=decide (g.au.length<=24) && oJ g g.au 0
def nu:SC :=
 af [af [ae [aa 63 5,av 64 1 4,al 65 64,aS 66 .leq 63 65],bO 66 (.exit 2)],.block 3 (af [ae [bb 69 4 1,aa 70 5,bf 71 171 [69,70],c5 72 71],aZ 72 (af [ae [bm 2 false],.ret])]),ae [aa 67 5,aF 68 .add 67 1,aa 5 68]]
def nh:SC :=
 af [af [ae [aa 10 3,av 11 0 1,al 12 11,aN 13 12,aS 14 .lss 10 13],bO 14 (.exit 0)],.block 1 (af [.region false [⟨none,[av 17 0 1,al 18 17,aa 19 3,aL 20 3 18 19,bb 21 3 20,((some 4),.op (.alloc [(.val (.string ⟨#[]⟩)),(.val (.int .i64 0)),(.val (.int .i64 0))])),cy 3 4 21]⟩],af [.region false [⟨none,[av 22 0 4,al 23 22,bf 24 169 [23],c5 25 24,aa 26 25]⟩,⟨(some (26,false)),[bb 27 4 1,av 28 0 4,al 29 28,bf 30 170 [27,29],aa 31 3,aS 32 .neq 30 31]⟩,⟨none,[cx 33 26 32,aa 34 33]⟩,⟨(some (34,false)),[av 35 1 4,al 36 35,aF 37 .lss 36 0]⟩,⟨none,[cx 38 34 37,aa 39 38]⟩,⟨(some (39,false)),[av 40 1 4,al 41 40,aF 42 .gtr 41 24]⟩,⟨none,[cx 43 39 42,aa 44 43]⟩,⟨(some (44,false)),[av 45 2 4,al 46 45,aF 47 .lss 46 0]⟩,⟨none,[cx 48 44 47,aa 49 48]⟩,⟨(some (49,false)),[av 50 2 4,al 51 50,aF 52 .gtr 51 3]⟩,⟨none,[cx 53 49 52,aa 54 53]⟩,⟨(some (54,false)),[av 55 1 4,al 56 55,aF 57 .eql 56 0,av 58 2 4,al 59 58,aF 60 .eql 59 0,((some 61),.op (.beq false (.tmp 57) (.tmp 60)))]⟩,⟨none,[cx 62 54 61]⟩],aZ 62 (af [ae [bm 2 false],.ret])],ae [aP 5 1],bR 2 nu]),ae [aa 15 3,aF 16 .add 15 1,aa 3 16]]
def px:SF:=⟨af [ae [cE 1 0,bm 2 false],af [ae [av 6 0 1,al 7 6,aN 8 7,aF 9 .gtr 8 24],aZ 9 (af [ae [bm 2 false],.ret])],af [ae [aP 3 0],bR 0 nh],ae [bm 2 true],.ret],
 [.tmp 2],73⟩
theorem ub:aM Tryz.prog 104 [1]=some px:=by kernel_rfl
def oZ:SC :=
 af [af [ae [aa 14 3,av 15 1 1,al 16 15,aN 17 16,aS 18 .lss 14 17],bO 18 (.exit 0)],.block 1 (af [.region false [⟨none,[av 21 1 1,al 22 21,aa 23 3,aL 24 1 22 23,al 25 24,bf 26 172 [25],c5 27 26,aa 28 27]⟩,⟨(some (28,false)),[bb 29 4 1,av 30 1 1,al 31 30,aa 32 3,aL 33 1 31 32,al 34 33,bf 35 150 [29,34],aa 36 3,aS 37 .neq 35 36]⟩,⟨none,[cx 38 28 37,aa 39 38]⟩,⟨(some (39,false)),[bb 40 4 1,av 41 1 1,al 42 41,aa 43 3,aL 44 1 42 43,al 45 44,bf 46 170 [40,45],aF 47 .geq 46 0]⟩,⟨none,[cx 48 39 47]⟩],aZ 48 (af [ae [bm 2 false],.ret])]),ae [aa 19 3,aF 20 .add 19 1,aa 3 20]]
def qC:SF:=⟨af [ae [cE 1 0,bm 2 false],af [.region false [⟨none,[av 4 1 1,al 5 4,aN 6 5,aF 7 .lss 6 1,aa 8 7]⟩,⟨(some (8,false)),[av 9 1 1,al 10 9,aN 11 10,aF 12 .gtr 11 16]⟩,⟨none,[cx 13 8 12]⟩],aZ 13 (af [ae [bm 2 false],.ret])],af [ae [aP 3 0],bR 0 oZ],ae [bm 2 true],.ret],
 [.tmp 2],49⟩
theorem vd:aM Tryz.prog 105 [1]=some qC:=by kernel_rfl
def nY:SC :=
 af [af [ae [aa 23 5,av 24 1 3,al 25 24,aN 26 25,aS 27 .lss 23 26],bO 27 (.exit 0)],.block 1 (af [.region false [⟨none,[bb 30 4 2,av 31 1 3,al 32 31,aa 33 5,aL 34 1 32 33,al 35 34,bf 36 74 [30,35],c5 37 36,aa 38 37]⟩,⟨(some (38,false)),[av 39 1 3,al 40 39,aa 41 5,aL 42 1 40 41,al 43 42,aF 44 .geq 43 0,aa 45 44]⟩,⟨(some (45,true)),[av 46 2 3,al 47 46,aF 48 .eql 47 (-1)]⟩,⟨(some (38,false)),[eV 49 45 48]⟩,⟨none,[cx 50 38 49]⟩],aZ 50 (af [ae [bm 4 false],.ret])]),ae [aa 28 5,aF 29 .add 28 1,aa 5 29]]
def qV:SF:=⟨af [ae [cE 2 0,cE 3 1,bm 4 false],af [.region false [⟨none,[av 6 1 3,al 7 6,aN 8 7,aF 9 .gtr 8 6,aa 10 9]⟩,⟨(some (10,false)),[av 11 2 3,al 12 11,aF 13 .lss 12 (-1)]⟩,⟨none,[cx 14 10 13,aa 15 14]⟩,⟨(some (15,false)),[av 16 2 3,al 17 16,av 18 0 2,al 19 18,aN 20 19,aS 21 .geq 17 20]⟩,⟨none,[cx 22 15 21]⟩],aZ 22 (af [ae [bm 4 false],.ret])],af [ae [aP 5 0],bR 0 nY],ae [bm 4 true],.ret],
 [.tmp 4],51⟩
theorem uN:aM Tryz.prog 106 [2,3]=some qV:=by kernel_rfl
def nq:SC :=
 af [af [ae [aa 39 4,av 40 2 1,al 41 40,aN 42 41,aS 43 .lss 39 42],bO 43 (.exit 0)],.block 1 (af [ae [av 46 2 1,al 47 46,aa 48 4,aL 49 3 47 48,bb 50 3 49,((some 5),.op (.alloc [(.val (.int .i64 0)),(.emp 1),(.val (.int .i64 0))])),cy 3 5 50],af [.region false [⟨none,[av 51 0 5,al 52 51,aF 53 .lss 52 0,aa 54 53]⟩,⟨(some (54,false)),[av 55 0 5,al 56 55,aa 57 3,aF 58 .add 57 1,aS 59 .gtr 56 58]⟩,⟨none,[cx 60 54 59,aa 61 60]⟩,⟨(some (61,false)),[bb 62 4 1,bb 63 3 5,bf 64 106 [62,63],c5 65 64]⟩,⟨none,[cx 66 61 65]⟩],aZ 66 (af [ae [bm 2 false],.ret])],ae [av 67 0 5,al 68 67,aa 69 3,aS 70 .gtr 68 69],aZ 70 (ae [av 71 0 5,al 72 71,aa 3 72])]),ae [aa 44 4,aF 45 .add 44 1,aa 4 45]]
def pC:SF:=⟨af [ae [cE 1 0,bm 2 false],af [.region false [⟨none,[bb 6 4 1,bf 7 104 [6],c5 8 7,aa 9 8]⟩,⟨(some (9,false)),[bb 10 4 1,bf 11 105 [10],c5 12 11]⟩,⟨none,[cx 13 9 12,aa 14 13]⟩,⟨(some (14,false)),[av 15 2 1,al 16 15,aN 17 16,aF 18 .lss 17 1]⟩,⟨none,[cx 19 14 18,aa 20 19]⟩,⟨(some (20,false)),[av 21 2 1,al 22 21,aN 23 22,aF 24 .gtr 23 40]⟩,⟨none,[cx 25 20 24,aa 26 25]⟩,⟨(some (26,false)),[av 27 3 1,al 28 27,aF 29 .lss 28 0]⟩,⟨none,[cx 30 26 29,aa 31 30]⟩,⟨(some (31,false)),[av 32 3 1,al 33 32,av 34 1 1,al 35 34,aN 36 35,aS 37 .geq 33 36]⟩,⟨none,[cx 38 31 37]⟩],aZ 38 (af [ae [bm 2 false],.ret])],ae [aP 3 (-1)],af [ae [aP 4 0],bR 0 nq],ae [aa 73 3,av 74 1 1,al 75 74,aN 76 75,aF 77 .sub 76 1,aS 78 .eql 73 77,aa 2 78],.ret],
 [.tmp 2],79⟩
theorem uF:aM Tryz.prog 50 [1]=some pC:=by kernel_rfl
theorem Lm (g:ai) (p:g.Ok) (H:View):aw Tryz.prog 104 [.agg (ag g)] H λr _=>r=gb (lE g):=by
 refine aw.of mixed ub ?_
 simp(disch:=omega)only[↓wr,seval,wq,px,ag,encS]
 apply aj.dec<;>intro h
 .simp(disch:=omega)only[↓wr,seval,wq]
  simp[lE,show ¬ g.au.length<=24 by omega]
 .have hle:g.au.length<=24:=by omega
  simp(disch:=omega)only[↓wr,seval,wq]
  refine aR.intro (λk T _=>∃ i:Nat,i+k=g.au.length/\oJ g (g.au.drop i) i=oJ g g.au 0/\T 1=.aJ (ag g) 0/\T 3=gi i) g.au.length ?_ ?_
  .exact⟨0,by omega,rfl,rfl,rfl⟩
  .rintro k T H' ⟨i,hk,hi,h1,d⟩
   simp(disch:=omega)only[↓wr,seval,wq,nh,h1,d,ag]
   apply aj.dec<;>intro z
   .have f:g.au[i]?=some (g.au[i]'(by omega)):=Vq (by omega)
    rw[dS (show i < g.au.length by omega)] at hi
    have b:g.au[i]'(by omega)∈g.au:=Vw _
    generalize g.au[i]'(by omega)=t at f hi b
    obtain⟨⟨A,B⟩,⟨C,D⟩⟩:=p.term t b
    simp only[oJ] at hi
    have a:lq g i t=false->gb false=gb (lE g):=λe=>by rw[e,WG] at hi;simp[lE,<-hi]
    simp(disch:=omega)only[↓wr,seval,wq,h1,d,ag,dq,Vt,f,VE]
    intro m hm
    try simp(disch:=omega)only[↓wr,seval,wq,h1,d]
    refine ax.pure (L5 t.name) ?_
    repeat' (first | ((first|apply aj.dec|apply aj.eq|apply aj.ne|apply aj.split)<;>intro)|(simp(disch:=omega)only[↓wr,seval,wq,h1,d,ag]))
    all_goals try (refine a ?_;simp[lq, *];done)
    rename_i s
    refine ax.pure (Ej g p t.name) ?_
    repeat' (first | ((first|apply aj.dec|apply aj.eq|apply aj.ne|apply aj.split)<;>intro)|(simp(disch:=omega)only[↓wr,seval,wq,h1,d,ag]))
    all_goals try (refine a ?_;simp[lq, *];done)
    all_goals try (refine a ?_;simp[lq];grind)
    rename_i E K L M N F
    have c:lq g i t=tB g t:=by
     have u:((t.level == 0) == (t.assoc == 0))=true:=by simpa using F
     simp[lq,s,E,u,show (0:Int)<=t.level by omega,show t.level<=24 by omega,show (0:Int)<=t.assoc by omega,show t.assoc<=3 by omega]
    refine aR.intro (λv T l=>∃ j:Nat,1<=j/\j+v=t.level.toNat+1/\(∀ q:Nat,q+1 < j->gX g.au ((q:Int)+1)=true)/\T 1=.aJ (ag g) 0/\T 3=gi i/\T 4=.ptr m 0 0/\l m=.arr 3 [[gs t.name,gi t.level,gi t.assoc]]/\T 5=gi j) t.level.toNat ?_ ?_
    .refine⟨1,by omega,by omega,λq w=>by omega,?_⟩
     simp(disch:=omega)only[↓wr,↓reduceIte,wq,Nat.reduceEqDiff,Nat.reduceAdd,Nat.reduceLT,Nat.reduceLeDiff,Int.reduceNeg,Int.reduceToNat,reduceCtorEq,h1,d,ag]
     rfl
    .rintro v O l ⟨j,G,I,n,f1,f3,f4,o,f5⟩
     simp(disch:=omega)only[↓wr,seval,wq,nu,f1,f3,f4,f5,o]
     apply aj.dec<;>intro J
     .simp(disch:=omega)only[↓wr,seval,wq,f1,f3,f4,f5,o,ag]
      refine ax.pure (La g p j) ?_
      repeat' (first | ((first|apply aj.dec|apply aj.eq|apply aj.ne|apply aj.split)<;>intro)|(simp(disch:=omega)only[↓wr,seval,wq,f1,f3,f4,f5,o,ag]))
      .rename_i x
       refine⟨v - 1,by omega,j+1,by omega,by omega,λq w=>?_,by first | rfl | exact⟨rfl,rfl⟩ | exact⟨rfl,rfl,rfl⟩⟩
       by_cases e:q+1=j
       .have:(q:Int)+1=j:=by omega
        rw[this];exact x
       .exact n q (by omega)
      .rename_i x
       refine a ?_
       rw[c,tB,Xo]
       refine⟨j - 1,by simp;omega,?_⟩
       have:((j - 1:Nat):Int)+1=j:=by omega
       rw[this,x];simp
     .simp(disch:=omega)only[↓wr,seval,wq,f1,f3,f4,f5,o]
      refine⟨k - 1,by omega,i+1,by omega,?_,by first | rfl | exact⟨rfl,rfl⟩ | exact⟨rfl,rfl,rfl⟩⟩
      have y:tB g t=true:=by
       rw[tB,VU]
       intro q w
       exact n q (by simp at w;omega)
      rw[c,y,Wd] at hi
      push_cast;exact hi
   .rw[VN (by omega)] at hi
    simp only[oJ] at hi
    simp(disch:=omega)only[↓wr,seval,wq,h1,d]
    simp[lE,hle,<-hi]
theorem Md (g:ai) (a:g.Ok):aB Tryz.prog 104 [.agg (ag g)] (gb (lE g)):=aB.val (eD g) (Lm g a)
def p9 (g:ai) (i:Int) (s:ByteArray):Bool:=gN (fH s) && (DH g s == i) && decide (rV g s < 0)
def rZ (g:ai):List ByteArray->Int->Bool
 | [],_=>true
 | s :: r,i=>p9 g i s && rZ g r (i+1)
def mf (g:ai):Bool:=decide (1<=g.ak.length) && decide (g.ak.length<=16) && rZ g g.ak 0
theorem Nq (g:ai) (h:g.Ok) (H:View):aw Tryz.prog 105 [.agg (ag g)] H λr _=>r=gb (mf g):=by
 refine aw.of mixed vd ?_
 repeat' (first | ((first|apply aj.dec|apply aj.eq|apply aj.ne|apply aj.split)<;>intro)|(simp(disch:=omega)only[↓wr,seval,wq,qC,ag,encS]))
 .simp[mf,show ¬ 1<=g.ak.length by omega]
 .simp[mf,show ¬ g.ak.length<=16 by omega]
 .have hle:g.ak.length<=16:=by omega
  refine aR.intro (λk T _=>∃ i:Nat,i+k=g.ak.length/\rZ g (g.ak.drop i) i=rZ g g.ak 0/\T 1=.aJ (ag g) 0/\T 3=gi i) g.ak.length ?_ ?_
  .exact⟨0,by omega,rfl,rfl,rfl⟩
  .rintro k T H' ⟨i,hk,hi,h1,c⟩
   simp(disch:=omega)only[↓wr,seval,wq,oZ,h1,c,ag,encS]
   apply aj.dec<;>intro j
   .have b:g.ak[i]?=some (g.ak[i]'(by omega)):=Vq (by omega)
    rw[dS (show i < g.ak.length by omega)] at hi
    generalize g.ak[i]'(by omega)=t at b hi
    simp only[rZ] at hi
    have a:p9 g i t=false->gb false=gb (mf g):=λe=>by rw[e,WG] at hi;simp[mf,<-hi]
    simp(disch:=omega)only[↓wr,seval,wq,h1,c,ag,encS,Vt,b,VE]
    refine ax.pure (Eh t) ?_
    repeat' (first | ((first|apply aj.dec|apply aj.eq|apply aj.ne|apply aj.split)<;>intro)|(simp(disch:=omega)only[↓wr,seval,wq,h1,c,ag,encS,Vt,b,VE]))
    all_goals try (refine a ?_;simp[p9, *];done)
    rename_i d
    refine ax.pure (PS g h t) ?_
    repeat' (first | ((first|apply aj.dec|apply aj.eq|apply aj.ne|apply aj.split)<;>intro)|(simp(disch:=omega)only[↓wr,seval,wq,h1,c,ag,encS,Vt,b,VE]))
    all_goals try (refine a ?_;simp[p9, *];done)
    rename_i f
    refine ax.pure (Ej g h t) ?_
    repeat' (first | ((first|apply aj.dec|apply aj.eq|apply aj.ne|apply aj.split)<;>intro)|(simp(disch:=omega)only[↓wr,seval,wq,h1,c,ag,encS]))
    all_goals try (refine a ?_;simp[p9, *];done)
    rename_i l
    refine⟨k - 1,by omega,i+1,by omega,?_,by first | rfl | exact⟨rfl,rfl⟩ | exact⟨rfl,rfl,rfl⟩⟩
    have:p9 g i t=true:=by simp[p9,d,f,show rV g t < 0 by omega]
    rw[this,Wd] at hi
    push_cast;exact hi
   .rw[VN (by omega)] at hi
    simp only[rZ] at hi
    simp(disch:=omega)only[↓wr,seval,wq,h1,c]
    simp[mf,hle,show 1<=g.ak.length by omega,<-hi]
theorem MB (g:ai) (a:g.Ok):aB Tryz.prog 105 [.agg (ag g)] (gb (mf g)):=aB.val (eD g) (Nq g a)
def pX (g:ai) (prec s:Int):Bool:=dw g s && !(decide (0<=s) && prec == -1)
def jn (g:ai) (r:ba):Bool:=decide (r.right.length<=6) && decide (-1<=r.prec) && decide (r.prec < g.au.length) && r.right.all (pX g r.prec)
theorem Gd (g:ai) (r:ba):∀ v∈[V.agg (ag g),V.agg (aK r)],Tree v:=by
 intro v a;simp at a
 rcases a with rfl | rfl
 .exact bW _ (cw g)
 .exact bW _ (fS r)
theorem Nx (g:ai) (r:ba) (hr:aI r.right/\∀ x∈r.right,bS x) (H:View):aw Tryz.prog 106 [.agg (ag g),.agg (aK r)] H λv _=>v=gb (jn g r):=by
 refine aw.of mixed uN ?_
 repeat' (first | ((first|apply aj.dec|apply aj.eq|apply aj.ne|apply aj.split)<;>intro)|(simp(disch:=omega)only[↓wr,seval,wq,qV,ag,encS,aK,encI]))
 .simp[jn,show ¬ r.right.length<=6 by omega]
 .simp[jn,show ¬ -1<=r.prec by omega]
 .simp[jn,show ¬ r.prec < g.au.length by omega]
 .have hle:r.right.length<=6:=by omega
  have j : -1<=r.prec:=by omega
  have l:r.prec < g.au.length:=by omega
  refine aR.intro (λk T _=>∃ i:Nat,i+k=r.right.length/\(r.right.drop i).all (pX g r.prec)=r.right.all (pX g r.prec)/\T 2=.aJ (ag g) 0/\T 3=.aJ (aK r) 0/\T 5=gi i) r.right.length ?_ ?_
  .exact⟨0,by omega,rfl,rfl,rfl,rfl⟩
  .rintro k T H' ⟨i,hk,hi,d,f,h⟩
   simp(disch:=omega)only[↓wr,seval,wq,nY,d,f,h,aK,encI]
   apply aj.dec<;>intro o
   .have b:r.right[i]?=some (r.right[i]'(by omega)):=Vq (by omega)
    rw[dS (show i < r.right.length by omega)] at hi
    have a:r.right[i]'(by omega)∈r.right:=Vw _
    generalize r.right[i]'(by omega)=t at b hi a
    have m:=hr.2 t a
    simp only[WR] at hi
    have c:pX g r.prec t=false->gb false=gb (jn g r):=λe=>by rw[e,WG] at hi;simp only[jn,<-hi,WV]
    have n:pX g r.prec t=true->(r.right.drop (i+1)).all (pX g r.prec)=r.right.all (pX g r.prec):=λe=>by rw[e,Wd] at hi;exact hi
    simp(disch:=omega)only[↓wr,seval,wq,d,f,h,ag,encS,aK,encI,Vt,b,VE]
    refine ax.pure (NG g t m) ?_
    repeat' (first | ((first|apply aj.dec|apply aj.eq|apply aj.ne|apply aj.split)<;>intro)|(simp(disch:=omega)only[↓wr,seval,wq,d,f,h,ag,encS,aK,encI,Vt,b,VE]))
    all_goals first
     | (refine c ?_;simp[pX, *];done)
     | (refine⟨k - 1,by omega,i+1,by omega,n (by simp[pX, *];done),by first | rfl | exact⟨rfl,rfl⟩ | exact⟨rfl,rfl,rfl⟩⟩)
     | skip
   .rw[VN (by omega)] at hi
    simp only[List.all_nil] at hi
    simp(disch:=omega)only[↓wr,seval,wq,d,f,h]
    simp only[jn,hle,j,l,decide_true,Wd,<-hi]
theorem Mm (g:ai) (r:ba) (hr:aI r.right/\∀ x∈r.right,bS x):aB Tryz.prog 106 [.agg (ag g),.agg (aK r)] (gb (jn g r)):=aB.val (Gd g r) (Nx g r hr)
def jI (g:ai):List ba->Int->Bool
 | [],top=>top == (g.ak.length:Int) - 1
 | r :: l,top=>decide (0<=r.left) && decide (r.left<=top+1) && jn g r && jI g l (if r.left > top then r.left else top)
def bM (g:ai):Bool :=
 lE g && mf g && decide (1<=g.rules.length) && decide (g.rules.length<=40) && decide (0<=g.start) && decide (g.start < g.ak.length) && jI g g.rules (-1)
theorem KP (g:ai) (h:g.Ok) (H:View):aw Tryz.prog 50 [.agg (ag g)] H λr _=>r=gb (bM g):=by
 refine aw.of mixed uF ?_
 have o:=h.ak
 unfold aI at o
 simp(disch:=omega)only[↓wr,seval,wq,pC,ag,encS]
 refine ax.pure (Md g h) ?_
 repeat' (first | ((first|apply aj.dec|apply aj.eq|apply aj.ne|apply aj.split)<;>intro)|(simp(disch:=omega)only[↓wr,seval,wq,ag,encS]))
 .rename_i h1
  refine ax.pure (MB g h) ?_
  repeat' (first | ((first|apply aj.dec|apply aj.eq|apply aj.ne|apply aj.split)<;>intro)|(simp(disch:=omega)only[↓wr,seval,wq,ag,encS]))
  all_goals try (simp[bM, *];done)
  all_goals try (simp[bM];omega)
  rename_i p y z A B
  have hle:g.rules.length<=40:=by omega
  have a:∀ b,jI g g.rules (-1)=b->gb b=gb (bM g):=λb e=>by
   simp[bM,h1,p,show 1<=g.rules.length by omega,hle,show 0<=g.start by omega,show g.start < g.ak.length by omega,e]
  refine aR.intro (λk T _=>∃ (i:Nat) (w:Int),i+k=g.rules.length/\-1<=w/\w < i/\jI g (g.rules.drop i) w=jI g g.rules (-1)/\T 1=.aJ (ag g) 0/\T 3=gi w/\T 4=gi i) g.rules.length ?_ ?_
  .exact⟨0,-1,by omega,by omega,by omega,rfl,rfl,rfl,rfl⟩
  .rintro k T H' ⟨i,w,hk,q,s,hi,f1,f3,f4⟩
   simp(disch:=omega)only[↓wr,seval,wq,nq,f1,f3,f4,ag]
   apply aj.dec<;>intro u
   .have d:g.rules[i]?=some (g.rules[i]'(by omega)):=Vq (by omega)
    rw[dS (show i < g.rules.length by omega)] at hi
    have c:g.rules[i]'(by omega)∈g.rules:=Vw _
    generalize g.rules[i]'(by omega)=t at d hi c
    obtain⟨⟨v,x⟩,hp,j,l⟩:=h.az t c
    simp only[jI] at hi
    simp(disch:=omega)only[↓wr,seval,wq,f1,f3,f4,ag,encS,aK,encI,Vt,d,VE]
    intro m hm
    try simp(disch:=omega)only[↓wr,seval,wq,f1,f3,f4]
    repeat' (first | ((first|apply aj.dec|apply aj.eq|apply aj.ne|apply aj.split)<;>intro)|(simp(disch:=omega)only[↓wr,seval,wq,f1,f3,f4,ag,encS,aK,encI]))
    all_goals try (refine a _ ?_;simp only[<-hi];simp;omega)
    rename_i C D
    refine ax.pure (Mm g t ⟨j,l⟩) ?_
    repeat' (first | ((first|apply aj.dec|apply aj.eq|apply aj.ne|apply aj.split)<;>intro)|(simp(disch:=omega)only[↓wr,seval,wq,f1,f3,f4,ag,encS,aK,encI]))
    all_goals simp only[show 0<=t.left by omega,show t.left<=w+1 by omega,decide_true,Wd] at hi
    .rename_i f n
     rw[f,Wd,Vu n] at hi
     exact⟨k - 1,by omega,i+1,_,by omega,by omega,by push_cast;omega,hi,by first | rfl | exact⟨rfl,rfl⟩ | exact⟨rfl,rfl,rfl⟩⟩
    .rename_i f n
     rw[f,Wd,Vs n] at hi
     exact⟨k - 1,by omega,i+1,_,by omega,by omega,by push_cast;omega,hi,by first | rfl | exact⟨rfl,rfl⟩ | exact⟨rfl,rfl,rfl⟩⟩
    .rename_i f
     rw[f,WG] at hi
     exact a _ hi.symm
   .rw[VN (by omega)] at hi
    simp only[jI] at hi
    simp(disch:=omega)only[↓wr,seval,wq,f1,f3,f4,ag,encS]
    exact a _ hi.symm
 .rename_i h1;simp[bM,h1]
theorem j9 (g:ai) (a:g.Ok):aB Tryz.prog 50 [.agg (ag g)] (gb (bM g)):=aB.val (eD g) (KP g a)
inductive cG (α:Type) where
 | nil
 | node (v:α) (l r:cG α)
noncomputable def cG.get {α:Type} (z:α) (t:cG α):Nat->α :=
 cG.rec (motive:=λ_=>Nat->α) (λ_=>z) (λv _ _ gl gr i=>Bool.rec (Bool.rec (gr (i / 2 - 1)) (gl (i / 2)) (Nat.beq (i % 2) 1)) v (Nat.beq i 0)) t
theorem cG.get_nil {α:Type} (z:α) (i:Nat):cG.get z .nil i=z:=rfl
theorem cG.Ql {α:Type} (z v:α) (l r:cG α) (i:Nat):cG.get z (.node v l r) i=match Nat.beq i 0 with
  | true=>v
  | false=>match Nat.beq (i % 2) 1 with
   | true=>cG.get z l (i / 2)
   | false=>cG.get z r (i / 2 - 1):=by
 change (Bool.rec (motive:=λ_=>α) _ _ _:α)=_
 cases Nat.beq i 0 with
 | true=>rfl
 | false=>cases Nat.beq (i % 2) 1 <;> rfl
def cG.val {α:Type} (z:α):cG α->α
 | .nil=>z
 | .node v _ _=>v
def cG.left {α:Type} : cG α->cG α
 | .nil=>.nil
 | .node _ l _=>l
def cG.right {α:Type} : cG α->cG α
 | .nil=>.nil
 | .node _ _ r=>r
noncomputable def cG.put {α:Type} (z:α) (x:α) (d:Nat):cG α->Nat->cG α :=
 Nat.rec (motive:=λ_=>cG α->Nat->cG α) (λt _=>t) (λ_ pd t i =>
  Bool.rec (Bool.rec (.node (t.val z) t.left (pd t.right (i / 2 - 1))) (.node (t.val z) (pd t.left (i / 2)) t.right) (Nat.beq (i % 2) 1)) (.node x t.left t.right) (Nat.beq i 0)) d
theorem cG.QE {α:Type} (z x:α) (d:Nat) (t:cG α) (i:Nat):cG.put z x (d+1) t i=match Nat.beq i 0 with
  | true=>.node x t.left t.right
  | false=>match Nat.beq (i % 2) 1 with
   | true=>.node (t.val z) (cG.put z x d t.left (i / 2)) t.right
   | false=>.node (t.val z) t.left (cG.put z x d t.right (i / 2 - 1)):=by
 change (Bool.rec (motive:=λ_=>cG α) _ _ _:cG α)=_
 cases Nat.beq i 0 with
 | true=>rfl
 | false=>cases Nat.beq (i % 2) 1 <;> rfl
theorem cG.nb {α:Type} (z:α) (t:cG α) (j:Nat):t.get z j=if j=0 then t.val z else if j % 2=1 then t.left.get z (j / 2) else t.right.get z (j / 2 - 1):=by
 cases t with
 | nil=>simp[cG.get_nil,cG.val,cG.left,cG.right]
 | node v l r =>
  simp only[cG.Ql,cG.val,cG.left,cG.right]
  by_cases h:j=0
  .subst h;rfl
  .have:Nat.beq j 0=false:=by cases e:Nat.beq j 0 with | true=>exact absurd (Xj e) h | false=>rfl
   rw[this,Vs h]
   simp only
   by_cases a:j % 2=1
   .have:Nat.beq (j % 2) 1=true:=by rw[a];rfl
    rw[this,Vu a]
   .have:Nat.beq (j % 2) 1=false:=by cases e:Nat.beq (j % 2) 1 with | true=>exact absurd (Xj e) a | false=>rfl
    rw[this,Vs a]
theorem cG.nB {α:Type} (z x:α):∀ (d:Nat) (t:cG α) (i j:Nat),i+1 < 2 ^ d->(cG.put z x d t i).get z j=if j=i then x else t.get z j
 | 0,t,i,j,h=>by simp at h
 | d+1,t,i,j,h=>by
  rw[Nat.pow_succ] at h
  simp only[cG.QE]
  by_cases hi:i=0
  .subst hi
   have:Nat.beq 0 0=true:=rfl
   rw[this]
   simp only
   rw[cG.nb,cG.nb z t]
   simp only[cG.val,cG.left,cG.right]
   by_cases b:j=0
   .rw[Vu b,Vu b]
   .rw[Vs b,Vs b,Vs b]
  .have:Nat.beq i 0=false:=by cases e:Nat.beq i 0 with | true=>exact absurd (Xj e) hi | false=>rfl
   rw[this]
   simp only
   by_cases c:i % 2=1
   .have:Nat.beq (i % 2) 1=true:=by rw[c];rfl
    rw[this]
    simp only
    rw[cG.nb,cG.nb z t]
    simp only[cG.val,cG.left,cG.right]
    by_cases b:j=0
    .subst b;rw[Vu rfl,Vs (λe=>hi e.symm),Vu rfl]
    .rw[Vs b,Vs b]
     by_cases a:j % 2=1
     .rw[Vu a,Vu a,cG.nB z x d _ _ _ (by omega)]
      by_cases e:j=i
      .subst e;simp
      .rw[Vs e,Vs (by omega)]
     .rw[Vs a,Vs a,Vs (λe=>a (by rw[e];exact c))]
   .have:Nat.beq (i % 2) 1=false:=by cases e:Nat.beq (i % 2) 1 with | true=>exact absurd (Xj e) c | false=>rfl
    rw[this]
    simp only
    rw[cG.nb,cG.nb z t]
    simp only[cG.val,cG.left,cG.right]
    by_cases b:j=0
    .subst b;rw[Vu rfl,Vs (λe=>hi e.symm),Vu rfl]
    .rw[Vs b,Vs b]
     by_cases a:j % 2=1
     .rw[Vu a,Vu a,Vs (λe=>c (by rw[<-e];exact a))]
     .rw[Vs a,Vs a,cG.nB z x d _ _ _ (by omega)]
      by_cases e:j=i
      .subst e;simp
      .rw[Vs e,Vs (by omega)]
abbrev deep:Nat:=13
structure ES where
 L:cG V
 H:cG c7
 n:Nat
 w:List Nat
noncomputable def ES.T (s:ES):Env:=s.L.get .any
noncomputable def ES.V (s:ES):View:=s.H.get .dead
noncomputable def ES.put (s:ES) (d:Option Nat) (v:Gv.V):ES:=match d with
 | some t=>⟨s.L.put .any v deep t,s.H,s.n,s.w⟩
 | none=>s
theorem ES.Re {s:ES} {d:Option Nat} {v:Gv.V} (h:∀ t,d=some t->t < 8000):(s.put d v).T=s.T.put d v:=by
 cases d with
 | none=>rfl
 | some t =>
  funext k
  have:=h t rfl
  simp only[ES.put,ES.T,Env.put]
  rw[cG.nB _ _ _ _ _ _ (by simp[deep];omega)]
noncomputable def Gn (v:V) (eff:bq) (rd:List Nat) (s:ES):Option (V × ES × Rec):=match eff with
 | .none=>some (v,s,⟨rd,[],false,s.n,s.n⟩)
 | .new o=>match Nat.ble s.n 8000 with
  | true=>some (v,⟨s.L,s.H.put .dead o deep s.n,s.n+1,s.w⟩,⟨rd,[],false,s.n,s.n+1⟩)
  | false=>none
 | .fe id o=>match Nat.ble id 8000 with
  | true=>some (v,⟨s.L,s.H.put .dead o deep id,s.n,id :: s.w⟩,⟨rd,[id],false,s.n,s.n⟩)
  | false=>none
 | .eU id o=>match Nat.ble s.n 8000,Nat.ble id 8000 with
  | true,true=>some (v,⟨s.L,(s.H.put .dead .dead deep id).put .dead o deep s.n,s.n+1,id :: s.w⟩,⟨rd,[id],false,s.n,s.n+1⟩)
  | _,_=>none
noncomputable def UQ (x:SX) (_:Program) (T:Env) (_:View) (_:Nat):Out:=some (x.at T,.none,[])
noncomputable def TU (c a b:SX) (_:Program) (T:Env) (_:View) (_:Nat):Out:=match c.at T with
 | .val (.bool t)=>some (if t then a.at T else b.at T,.none,[])
 | _=>none
noncomputable def TN (sz:Option Nat) (a:SX) (_:Program) (T:Env) (H:View) (_:Nat):Out:=xc sz (a.at T) H
noncomputable def TI (sz:Nat) (a x:SX) (_:Program) (T:Env) (H:View) (_:Nat):Out:=BI sz (a.at T) (x.at T) H
noncomputable def Ub (off:Nat) (x:SX) (_:Program) (T:Env) (_:View) (_:Nat):Out:=zD off (x.at T)
noncomputable def UK (sz:Nat) (x i:SX) (_:Program) (T:Env) (_:View) (_:Nat):Out:=DP sz (x.at T) (i.at T)
noncomputable def Uq (x:SX) (_:Program) (T:Env) (_:View) (_:Nat):Out:=(ct (x.at T)).map λn=>(fO n,.none,[])
noncomputable def SZ (op:BinOp) (x y:SX) (_:Program) (T:Env) (_:View) (_:Nat):Out:=yi op (x.at T) (y.at T)
noncomputable def UG (op:BinOp) (x y:SX) (_:Program) (T:Env) (_:View) (_:Nat):Out:=AZ op (x.at T) (y.at T)
noncomputable def Uo (x:SX) (_:Program) (T:Env) (_:View) (_:Nat):Out:=match x.at T with
 | .val (.bool t)=>some (.val (.bool (!t)),.none,[])
 | _=>none
noncomputable def Uu (i:Nat) (x:SX) (_:Program) (T:Env) (_:View) (_:Nat):Out:=match x.at T with
 | .aY vs=>if i < vs.length then some (vs.getD i .any,.none,[]) else none
 | _=>none
noncomputable def TX (x:SX) (_:Program) (T:Env) (_:View) (_:Nat):Out:=match x.at T with
 | .ptr id i j=>some (.ptr id i j,.none,[])
 | .aJ e j=>some (.aJ e j,.none,[])
 | .fn f a b=>some (.fn f a b,.none,[])
 | _=>none
noncomputable def eI (s:SI):Program->Env->View->Nat->Out:=match s with
 | .eU x=>UQ x
 | .pick c a b=>TU c a b
 | .load sz a=>TN sz a
 | .store sz a x=>TI sz a x
 | .addr o x=>Ub o x
 | .idx sz x i=>UK sz x i
 | .len x=>Uq x
 | .arith op x y=>SZ op x y
 | .xl op x y=>UG op x y
 | .not x=>Uo x
 | .ext i x=>Uu i x
 | .AU x=>TX x
 | s=>λP T H n=>sI P s T H n
theorem K7 (s:SI) (P:Program) (T:Env) (H:View) (n:Nat):eI s P T H n=sI P s T H n:=by
 cases s <;> rfl
abbrev iq:=FuncId->List V->ES->Option (V × ES)
noncomputable def MO (P:Program) (s:SI) (e:ES):Option (V × ES × Rec):=match eI s P e.T e.V e.n with
 | some (v,eff,rd)=>Gn v eff rd e
 | none=>none
noncomputable def Mz (call:iq) (f:SX) (args:List SX) (e:ES):Option (V × ES × Rec):=match f.at e.T with
 | .fn g first cap=>match call g (first ++ args.map (SX.at e.T) ++ cap) e with
  | some (v,e')=>some (v,⟨e.L,e'.H,e'.n,e'.w ++ e.w⟩,⟨[],e'.w,true,e.n,e'.n⟩)
  | none=>none
 | _=>none
noncomputable def eB (P:Program) (call:iq) (b:SB):ES->Option (V × ES × Rec):=match b with
 | .op s=>MO P s
 | .call f args=>Mz call f args
 | .tG ..=>λ_=>none
noncomputable def I9 (P:Program) (call:iq):List (Option Nat × SB)->List Rec->ES->Option (ES × List Rec)
 | [],a,e=>some (e,a)
 | (d,b) :: r,a,e=>match eB P call b e with
  | some (v,e',c)=>I9 P call r (a ++ [c]) (e'.put d v)
  | none=>none
noncomputable def Rj (e:ES):Rec:=⟨[],[],false,e.n,e.n⟩
noncomputable def vT:List (Option Nat × SB)->List Rec->ES->ES × List Rec
 | [],a,e=>(e,a)
 | (d,_) :: r,a,e=>vT r (a ++ [Rj e]) (e.put d (.aY []))
noncomputable def Nj (P:Program) (call:iq) (ops:List (Option Nat × SB)) (want:Bool) (v:V) (a:List Rec) (e:ES):Option (ES × List Rec):=match v with
 | .val (.bool b)=>match xor b want with
  | true=>some (vT ops a e)
  | false=>I9 P call ops a e
 | .aY []=>some (vT ops a e)
 | _=>none
noncomputable def eG (P:Program) (call:iq) (g:SG) (a:List Rec) (e:ES):Option (ES × List Rec):=match g.guard with
 | none=>I9 P call g.ops a e
 | some (d,want)=>Nj P call g.ops want (e.T d) a e
noncomputable def NN (P:Program) (call:iq):List SG->List Rec->ES->Option (ES × List Rec)
 | [],a,e=>some (e,a)
 | g :: r,a,e=>match eG P call g a e with
  | some (e',a')=>NN P call r a' e'
  | none=>none
inductive DC where
 | skip
 | region (ps:List (Nat × Nat)) (gs:List SG)
 | seq (x y:DC)
 | cond (c:SX) (x y:DC)
 | block (id:Nat) (c:DC)
 | loop (c:DC)
 | exit (id:Nat)
 | ret
 deriving Inhabited
def Om (recs:List Rec) (ps:List (Nat × Nat)):Bool:=ps.all λ(i,k)=>match recs[i]?,recs[k]? with
 | some a,some b=>DO a b
 | _,_=>false
abbrev ER:=Option (Exit × ES)
abbrev xq:=DC->ES->ER
noncomputable def Ms:ES->ER:=λe=>some (.normal,e)
noncomputable def IZ (P:Program) (call:iq) (ps:List (Nat × Nat)) (gs:List SG) (e:ES):ER:=match NN P call gs [] e with
 | some (e',recs)=>match Om recs ps with
  | true=>some (.normal,e')
  | false=>none
 | none=>none
noncomputable def SM (run:xq) (x y:DC) (e:ES):ER:=match run x e with
 | some (.normal,e')=>run y e'
 | r=>r
noncomputable def Rq (run:xq) (c:SX) (x y:DC) (e:ES):ER:=match c.at e.T with
 | .val (.bool true)=>run x e
 | .val (.bool false)=>run y e
 | _=>none
noncomputable def OP (run:xq) (id:Nat) (c:DC) (e:ES):ER:=match run c e with
 | some (r,e')=>some (qo id r,e')
 | none=>none
noncomputable def Rw (run:xq) (c:DC) (e:ES):ER:=match run c e with
 | some (.normal,e')=>run (.loop c) e'
 | r=>r
noncomputable def mC (P:Program) (call:iq) (run:xq) (c:DC):ES->ER:=match c with
 | .skip=>Ms
 | .region ps gs=>IZ P call ps gs
 | .seq x y=>SM run x y
 | .cond c x y=>Rq run c x y
 | .block id c=>OP run id c
 | .loop c=>Rw run c
 | .exit id=>λe=>some (.exit id,e)
 | .ret=>λe=>some (.ret,e)
noncomputable def Pu (r:SR) (e:ES):Option V:=match r with
 | .tmp t=>some (e.T t)
 | .cell t sz=>match e.T t with
  | .ptr id i j=>match e.V id with
   | .arr _ es=>if i < es.length then mE sz (es.getD i []) j else none
   | _=>none
  | .aJ e j=>mE sz e j
  | _=>none
noncomputable def wC:List SR->ES->Option (List V)
 | [],_=>some []
 | r :: l,e=>match Pu r e,wC l e with
  | some v,some vs=>some (v :: vs)
  | _,_=>none
noncomputable def nz:List V->Nat->cG V->cG V
 | [],_,t=>t
 | v :: vs,i,t=>nz vs (i+1) (t.put .any v deep i)
structure DF where
 code:DC
 res:List SR
 n:Nat
noncomputable def Ty (l:List SR) (r:ER):Option (V × ES):=match r with
 | some (.ret,e)=>(wC l e).map λvs=>(wu vs,e)
 | some (.normal,e)=>(wC l e).map λvs=>(wu vs,e)
 | _=>none
noncomputable def SL (m:Nat) (r:Option (V × ES)):Option (V × ES):=match r with
 | some (v,e)=>some (v,⟨e.L,e.H,e.n,e.w.filter λid=>Nat.blt id m⟩)
 | none=>none
noncomputable def Tu (run:xq) (F:DF) (vs:List V) (e:ES):Option (V × ES):=match Nat.ble vs.length F.n,Nat.ble F.n 8000 with
 | true,true=>SL e.n (Ty F.res (run F.code ⟨nz vs 0 .nil,e.H,e.n,[]⟩))
 | _,_=>none
abbrev yF:=FuncId->List V->View->Option V
noncomputable def FG (P:Program) (tab:List (FuncId × DF)) (ext:yF) (run:xq) (g:FuncId) (vs:List V) (e:ES):Option (V × ES):=match ext g vs e.V with
 | some t=>some (t,⟨e.L,e.H,e.n,[]⟩)
 | none=>match tab.find? (λp=>Nat.beq p.1 g) with
  | some (_,F)=>Tu run F vs e
  | none=>none
noncomputable def Gc (P:Program) (tab:List (FuncId × DF)) (ext:yF):Nat->xq
 | 0=>λ_ _=>none
 | k+1=>mC P (FG P tab ext (Gc P tab ext k)) (Gc P tab ext k)
def Be (all:List Oper) (ls:List Nat):List (Nat × Nat) :=
 let b:=fE all []
 (ls.zipIdx.map λ(x,i)=>(ls.zipIdx.filter λ(y,k)=>decide (i < k) && !(ordered b i k || x == 0 || y == 0 || (decide (x<=1) && decide (y<=1)))).map λ(_,k)=>(i,k)).flatten
def Gl (P:Program) (n:Nat) (fz:List Nat) (ops:List Oper) (draw:Bool):Option DC:=match dF P n ops ⟨fz,false⟩ ops with
 | none=>none
 | some l=>if !(group l).all tS then none else
  if draw then (if l8 ops then some (.region (Be ops (l.map λs=>ja P false s.b)) (group l)) else none) else some (.region [] (group l))
def jm (P:Program) (n:Nat) (fz:List Nat):Code->Option DC
 | .skip=>some .skip
 | .region _ ops draw=>Gl P n fz ops.toList draw
 | .seq x y=>match jm P n fz x,jm P n fz y with
  | some a,some b=>some (.seq a b)
  | _,_=>none
 | .cond c x y=>match jm P n fz x,jm P n fz y with
  | some a,some b=>some (.cond (SX.of c) a b)
  | _,_=>none
 | .block id c=>(jm P n fz c).map (.block id)
 | .loop c=>(jm P n fz c).map .loop
 | .exit id=>some (.exit id)
 | .ret=>some .ret
 | _=>none
abbrev Vo (l:List (Option Nat × SB)):DC:=.region [] [⟨none,l⟩]
def Io (P:Program) (f:FuncId) (fz:List Nat):Option DF:=match P.funcs[f]? with
 | some fn=>match fn.body with
  | some c=>match jm P fn.ntmps fz c,fJ P fn.results.toList,dD P f with
   | some sc,some rs,true=>some ⟨sc,rs,fn.ntmps⟩
   | _,_,_=>none
  | none=>none
 | none=>none
end Gv

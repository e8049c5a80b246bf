/-
  Part 6 of the proof: what the machine does and what the functions answer.
  Conditions: those that each lemma names.
-/
import Derived.Test.YtihmlbdfcmfbdaaGreatSGzB5E
set_option linter.unusedSimpArgs false
set_option linter.unusedVariables false
set_option maxRecDepth 100000
set_option maxHeartbeats 20000000
namespace Gv
open Go Go.Proofs
structure Term where
 name:ByteArray
 level:Int
 assoc:Int
structure bg where
 left:Int
 right:List Int
 prec:Int
structure ai where
 af:List Term
 ak:List ByteArray
 rules:List bg
 start:Int
instance:Inhabited Term:=⟨⟨.empty,0,0⟩⟩
instance:Inhabited bg:=⟨⟨0,[],0⟩⟩
def cm (t:Term):List V:=[gs t.name,gi t.level,gi t.assoc]
def aU (r:bg):List V:=[gi r.left,encI r.right,gi r.prec]
def encS (l:List ByteArray):V:=.aE (l.map λs=>[gs s])
def ag (g:ai):List V:=[.aE (g.af.map cm),encS g.ak,.aE (g.rules.map aU),gi g.start]
theorem fe {α:Type} (l:List α) (f:α->List V) (h:∀ x∈l,∀ v∈f x,Tree v):Tree (.aE (l.map f)):=by
 refine .aE _ λi j hi a=>?_
 simp only[aaA] at hi
 have e:(l.map f).getD i []=f l[i]:=by simp[aaq,hi]
 rw[e] at a ⊢
 have b:(f l[i]).getD j .any=(f l[i])[j]:=by simp[aaq,a]
 rw[b]
 exact h _ (aaC _) _ (aaC _)
theorem cn (cs:List V) (h:∀ v∈cs,Tree v):Tree (.agg cs):=by
 refine .agg _ λi hi=>?_
 have a:cs.getD i .any=cs[i]:=by simp[aaq,hi]
 rw[a];exact h _ (aaC _)
theorem AQ (l:List ByteArray):Tree (encS l):=fe _ _ λx _ v a=>by simp at a;subst a;exact .val _
theorem vS (t:Term):∀ v∈cm t,Tree v:=by intro v a;simp[cm] at a;rcases a with rfl | rfl | rfl <;> exact .val _
theorem iQ (r:bg):∀ v∈aU r,Tree v:=by
 intro v a;simp[aU] at a;rcases a with rfl | rfl | rfl
 .exact .val _
 .exact fa _
 .exact .val _
theorem dq (g:ai):∀ v∈ag g,Tree v:=by
 intro v a;simp[ag] at a;rcases a with rfl | rfl | rfl | rfl
 .exact fe _ _ λx _=>vS x
 .exact AQ _
 .exact fe _ _ λx _=>iQ x
 .exact .val _
def b6 (x:Int):Prop:=-9223372036854775808<=x/\x<=9223372036854775807
structure ai.Ok (g:ai):Prop where
 af:aK g.af
 ak:aK g.ak
 rules:aK g.rules
 start:b6 g.start
 term:∀ t∈g.af,b6 t.level/\b6 t.assoc
 ax:∀ r∈g.rules,b6 r.left/\b6 r.prec/\aK r.right/\∀ x∈r.right,b6 x
def fP (g:ai) (s:Int):Bool:=if 0<=s then decide (s < g.af.length) else decide (-1 - s < g.ak.length)
def tO:SF:=⟨ae [ab [cy 2 0,bw 4 false],ae [ab [aa 5 1,aF 6 .geq 5 0],bf 6 (ae [ab [aa 7 1,ao 8 0 2,aj 9 8,aM 10 9,aQ 11 .lss 7 10,aa 4 11],.ret])],ab [aa 12 1,((some 13),.op (.arith .sub (.val (.val (.int .i64 (-1)))) (.tmp 12))),ao 14 1 2,aj 15 14,aM 16 15,aQ 17 .lss 13 16,aa 4 17],.ret],
 [.tmp 4],18⟩
theorem z6:aO Tryz.prog 155 [2]=some tO:=by kernel_rfl
theorem Ys (g:ai) (s:Int) (hs:b6 s) (H:View):av Tryz.prog 155 [.agg (ag g),gi s] H λr H'=>r=gb (fP g s)/\H'=H:=by
 refine av.of mixed z6 ?_
 obtain⟨h1,a⟩:=hs
 simp(disch:=omega)only[↓wr,seval,wq,tO,ag,encS]
 apply ah.dec<;>intro h
 .simp(disch:=omega)only[↓wr,seval,wq]
  simp[fP,show (0:Int)<=s from h]
 .simp(disch:=omega)only[↓wr,seval,wq]
  simp[fP,show ¬ (0:Int)<=s from h]
theorem Sw (g:ai) (s:Int) (hs:b6 s):az Tryz.prog 155 [.agg (ag g),gi s] (gb (fP g s)) :=
 az.of (by
  intro v a;simp at a
  rcases a with rfl | rfl
  .exact cn _ (dq g)
  .exact .val _) ((Ys g s hs _).mono λr H' h b _=>by rw[h.1];exact .tree _ (.val _))
def pX (g:ai):Bool:=decide (40 < g.af.length) || decide (40 < g.ak.length) || decide (60 < g.rules.length) || g.rules.any λr=>decide (20 < r.right.length)
def pg:SC :=
 ae [ae [ab [aa 20 3,ao 21 2 1,aj 22 21,aM 23 22,aQ 24 .lss 20 23],bS 24 (.exit 0)],.block 1 (ae [ab [ao 27 2 1,aj 28 27,aa 29 3,aI 30 3 28 29,ao 31 1 30,aj 32 31,aM 33 32,aF 34 .gtr 33 20],bf 34 (ae [ab [bw 2 true],.ret])]),ab [aa 25 3,aF 26 .add 25 1,aa 3 26]]
def rz:SF:=⟨ae [ab [cy 1 0,bw 2 false],ae [.region false [⟨none,[ao 4 0 1,aj 5 4,aM 6 5,aF 7 .gtr 6 40,aa 8 7]⟩,⟨(some (8,false)),[ao 9 1 1,aj 10 9,aM 11 10,aF 12 .gtr 11 40]⟩,⟨none,[cF 13 8 12,aa 14 13]⟩,⟨(some (14,false)),[ao 15 2 1,aj 16 15,aM 17 16,aF 18 .gtr 17 60]⟩,⟨none,[cF 19 14 18]⟩],bf 19 (ae [ab [bw 2 true],.ret])],ae [ab [aT 3 0],bX 0 pg],ab [bw 2 false],.ret],
 [.tmp 2],35⟩
theorem xz:aO Tryz.prog 16 [1]=some rz:=by kernel_rfl
theorem U6 (g:ai) (H:View):av Tryz.prog 16 [.agg (ag g)] H λr H'=>r=gb (pX g)/\H'=H:=by
 refine av.of mixed xz ?_
 simp(disch:=omega)only[↓wr,seval,wq,rz,ag,encS]
 apply ah.dec<;>intro h1
 .simp(disch:=omega)only[↓wr,seval,wq]
  simp[pX,show 40 < g.af.length by omega]
 .simp(disch:=omega)only[↓wr,seval,wq]
  apply ah.dec<;>intro d
  .simp(disch:=omega)only[↓wr,seval,wq]
   simp[pX,show 40 < g.ak.length by omega]
  .simp(disch:=omega)only[↓wr,seval,wq]
   apply ah.dec<;>intro f
   .simp(disch:=omega)only[↓wr,seval,wq]
    simp[pX,show 60 < g.rules.length by omega]
   .simp(disch:=omega)only[↓wr,seval,wq]
    refine aS.intro (λk T H'=>∃ i:Nat,i+k=g.rules.length/\(∀ r∈g.rules.take i,¬ 20 < r.right.length)/\T 1=.aH (ag g) 0/\T 3=gi i/\H'=H) g.rules.length ?_ ?_
    .exact⟨0,by omega,by simp,rfl,rfl,rfl⟩
    .rintro k T H' ⟨i,hk,hi,a,b,rfl⟩
     simp(disch:=omega)only[↓wr,seval,wq,pg,a,b,ag]
     apply ah.dec<;>intro h
     .have c:g.rules[i]?=some (g.rules[i]'(by omega)):=aar (by omega)
      simp(disch:=omega)only[↓wr,seval,wq,a,b,ag,aU,encI,aav,c,aaz]
      apply ah.dec<;>intro hd
      .simp(disch:=omega)only[↓wr,seval,wq]
       have:g.rules.any (λr=>decide (20 < r.right.length))=true:=by
        simp only[List.any_eq_true,aaE]
        exact⟨g.rules[i]'(by omega),aaC _,by omega⟩
       simp[pX,this]
      .simp(disch:=omega)only[↓wr,seval,wq,a,b]
       refine⟨k - 1,by omega,i+1,by omega,?_,rfl,rfl⟩
       intro r hr
       rw[aaQ,c] at hr
       simp only[Option.toList_some,aaZ,abq] at hr
       rcases hr with hr | rfl
       .exact hi r hr
       .omega
     .simp(disch:=omega)only[↓wr,seval,wq,a,b]
      have e:i=g.rules.length:=by omega
      rw[aaJ (by omega)] at hi
      have:g.rules.any (λr=>decide (20 < r.right.length))=false:=by
       simp only[List.any_eq_false,aaE];exact hi
      simp only[pX,this]
      simp;omega
def cP (l:List Int) (is:List Bool) (af:Bool):Bool:=l.all λs=>if 0<=s then af else is.getD (-1 - s).toNat false
def qV:SC :=
 ae [ae [ab [aa 8 7,aa 9 0,aM 10 9,aQ 11 .lss 8 10],bS 11 (.exit 0)],.block 1 (ae [.region false [⟨none,[aa 14 0,aa 15 7,aI 16 1 14 15,aj 17 16,aF 18 .geq 17 0,aa 19 18]⟩,⟨(some (19,true)),[aa 20 2,c4 21 20]⟩,⟨none,[eC 22 19 21,aa 23 22]⟩,⟨(some (23,false)),[aa 24 0,aa 25 7,aI 26 1 24 25,aj 27 26,aF 28 .lss 27 0,aa 29 28]⟩,⟨(some (29,true)),[aa 30 1,aa 31 0,aa 32 7,aI 33 1 31 32,aj 34 33,((some 35),.op (.arith .sub (.val (.val (.int .i64 (-1)))) (.tmp 34))),aI 36 1 30 35,aj 37 36,c4 38 37]⟩,⟨(some (23,false)),[eC 39 29 38]⟩,⟨none,[cF 40 23 39]⟩],bf 40 (ae [ab [bw 6 false],.ret])]),ab [aa 12 7,aF 13 .add 12 1,aa 7 13]]
def tT:SF:=⟨ae [ab [bw 6 false],ae [ab [aT 7 0],bX 0 qV],ab [bw 6 true],.ret],
 [.tmp 6],41⟩
theorem zG:aO Tryz.prog 117 []=some tT:=by kernel_rfl
theorem Yh (l:List Int) (is:List Bool) (t:Bool) (hl:aK l) (hs:∀ s∈l,b6 s/\(s < 0->-1 - s < is.length)) (H:View) :
  av Tryz.prog 117 [encI l,bO is,gb t] H λr H'=>r=gb (cP l is t)/\H'=H:=by
 refine av.of mixed zG ?_
 unfold aK at hl
 simp(disch:=omega)only[↓wr,seval,wq,tT]
 refine aS.intro (λk T H'=>∃ i:Nat,i+k=l.length/\cP (l.take i) is t=true/\T 0=encI l/\T 1=bO is/\T 2=gb t/\T 7=gi i/\H'=H) l.length ?_ ?_
 .exact⟨0,by omega,by simp[cP],rfl,rfl,rfl,rfl,rfl⟩
 .rintro k T H' ⟨i,hk,hi,d,h1,f,g,rfl⟩
  simp(disch:=omega)only[↓wr,seval,wq,qV,d,h1,f,g,encI]
  apply ah.dec<;>intro o
  .have h:l[i]?=some (l[i]'(by omega)):=aar (by omega)
   have hm:l[i]'(by omega)∈l:=aaC _
   generalize l[i]'(by omega)=s at h hm
   obtain⟨⟨p,q⟩,u⟩:=hs s hm
   have a:cP (l.take (i+1)) is t=(if 0<=s then t else is.getD (-1 - s).toNat false):=by
    rw[aaQ,h]
    simp only[cP,Option.toList_some,List.all_append,abP,List.all_nil,Bool.and_true] at hi ⊢
    rw[hi,abE]
   have c:(if 0<=s then t else is.getD (-1 - s).toNat false)=false->cP l is t=false:=by
    intro j
    simp only[cP,List.all_eq_false]
    exact⟨s,hm,by simpa using j⟩
   simp(disch:=omega)only[↓wr,seval,wq,d,h1,f,g,encI,aav,h,aaz]
   apply ah.dec<;>intro hd
   .rw[aaw (show 0<=s from hd)] at a c
    cases t with
    | true =>
     simp(disch:=omega)only[↓wr,seval,wq,d,h1,f,g,encI,aav,h,aaz]
     refine ah.dec (λm=>absurd m (by omega)) (λ_=>?_)
     simp(disch:=omega)only[↓wr,seval,wq,d,h1,f,g,encI,bO,aav,h,aaz]
     exact⟨k - 1,by omega,i+1,by omega,a,rfl⟩
    | false =>
     simp(disch:=omega)only[↓wr,seval,wq,d,h1,f,g,encI,aav,h,aaz]
     rw[c rfl]
   .rw[aat (show ¬ 0<=s from hd)] at a c
    simp(disch:=omega)only[↓wr,seval,wq,d,h1,f,g,encI,aav,h,aaz]
    refine ah.dec (λm=>?_) (λm=>absurd m (by omega))
    have j:is[(-1 - s).toNat]?=some (is[(-1 - s).toNat]'(by omega)):=aar (by omega)
    have n:is.getD (-1 - s).toNat false=is[(-1 - s).toNat]'(by omega):=by simp[aaq,j]
    rw[n] at a c
    generalize is[(-1 - s).toNat]'(by omega)=b at j a c
    simp(disch:=omega)only[↓wr,seval,wq,d,h1,f,g,encI,bO,aav,h,j,aaz]
    cases b with
    | true =>
     simp(disch:=omega)only[↓wr,seval,wq,d,h1,f,g,encI,bO,aav,h,j,aaz]
     exact⟨k - 1,by omega,i+1,by omega,a,rfl⟩
    | false =>
     simp(disch:=omega)only[↓wr,seval,wq,d,h1,f,g,encI,bO,aav,h,j,aaz]
     rw[c rfl]
  .simp(disch:=omega)only[↓wr,seval,wq,d,h1,f,g]
   have e:i=l.length:=by omega
   rw[aaJ (by omega)] at hi
   rw[hi]
abbrev gy (x:Int):V:=.val (.int .u8 x)
def yl (c:Int):Bool:=(decide (97<=c) && decide (c<=122)) || (decide (65<=c) && decide (c<=90)) || c == 95
def qA (c:Int):Bool:=yl c || (decide (48<=c) && decide (c<=57)) || c == 46
def rA:SF:=⟨ae [ab [bw 2 false],.region false [⟨none,[aa 3 0,((some 4),.op (.arith .geq (.tmp 3) (.val (.val (.int .u8 97))))),aa 5 4]⟩,⟨(some (5,true)),[aa 6 0,((some 7),.op (.arith .leq (.tmp 6) (.val (.val (.int .u8 122)))))]⟩,⟨none,[eC 8 5 7,aa 9 8]⟩,⟨(some (9,false)),[aa 10 0,((some 11),.op (.arith .geq (.tmp 10) (.val (.val (.int .u8 65))))),aa 12 11]⟩,⟨(some (12,true)),[aa 13 0,((some 14),.op (.arith .leq (.tmp 13) (.val (.val (.int .u8 90)))))]⟩,⟨(some (9,false)),[eC 15 12 14]⟩,⟨none,[cF 16 9 15,aa 17 16]⟩,⟨(some (17,false)),[aa 18 0,((some 19),.op (.arith .eql (.tmp 18) (.val (.val (.int .u8 95)))))]⟩,⟨none,[cF 20 17 19,aa 2 20]⟩],.ret],
 [.tmp 2],21⟩
theorem w8:aO Tryz.prog 193 []=some rA:=by kernel_rfl
def ri:SF:=⟨ae [ab [bw 2 false],.region false [⟨none,[aa 3 0,bm 4 193 [3],aa 5 4]⟩,⟨(some (5,false)),[aa 6 0,((some 7),.op (.arith .geq (.tmp 6) (.val (.val (.int .u8 48))))),aa 8 7]⟩,⟨(some (8,true)),[aa 9 0,((some 10),.op (.arith .leq (.tmp 9) (.val (.val (.int .u8 57)))))]⟩,⟨(some (5,false)),[eC 11 8 10]⟩,⟨none,[cF 12 5 11,aa 13 12]⟩,⟨(some (13,false)),[aa 14 0,((some 15),.op (.arith .eql (.tmp 14) (.val (.val (.int .u8 46)))))]⟩,⟨none,[cF 16 13 15,aa 2 16]⟩],.ret],
 [.tmp 2],17⟩
theorem wU:aO Tryz.prog 194 []=some ri:=by kernel_rfl
theorem Va (c:Int) (H:View):av Tryz.prog 193 [gy c] H λr H'=>r=gb (yl c)/\H'=H:=by
 refine av.of mixed w8 ?_
 repeat' (first | ((first|apply ah.dec|apply ah.eq|apply ah.ne|apply ah.split)<;>intro)|(simp(disch:=omega)only[↓wr,seval,wq,rA]))
 all_goals (congr 2;simp only[yl];grind)
theorem K7 (c:Int):az Tryz.prog 193 [gy c] (gb (yl c)) :=
 az.of (by intro v a;simp at a;subst a;exact .val _) ((Va c _).mono λr H' h b _=>by rw[h.1];exact .tree _ (.val _))
theorem VX (c:Int) (H:View):av Tryz.prog 194 [gy c] H λr H'=>r=gb (qA c)/\H'=H:=by
 refine av.of mixed wU ?_
 repeat' (first | ((first|apply ah.dec|apply ah.eq|apply ah.ne|apply ah.split)<;>intro)|(simp(disch:=omega)only[↓wr,seval,wq,ri]))
 refine ay.pure (K7 c) ?_
 repeat' (first | ((first|apply ah.dec|apply ah.eq|apply ah.ne|apply ah.split)<;>intro)|(simp(disch:=omega)only[↓wr,seval,wq]))
 all_goals (congr 2;simp only[qA];grind)
theorem V9 (c:Int):az Tryz.prog 194 [gy c] (gb (qA c)) :=
 az.of (by intro v a;simp at a;subst a;exact .val _) ((VX c _).mono λr H' h b _=>by rw[h.1];exact .tree _ (.val _))
def iD (l:List Int):Bool:=decide (0 < l.length) && decide (l.length<=20) && (match l with | c :: _=>yl c | []=>false) && l.all qA
def qL:SC :=
 ae [ae [ab [aa 18 3,aa 19 0,((some 20),.op (.rJ (.tmp 19))),aQ 21 .lss 18 20],bS 21 (.exit 0)],.block 1 (ae [ab [aa 24 0,aa 25 3,((some 26),.op (.jy (.tmp 24) (.tmp 25))),bm 27 194 [26],c4 28 27],bf 28 (ae [ab [bw 2 false],.ret])]),ab [aa 22 3,aF 23 .add 22 1,aa 3 23]]
def tw:SF:=⟨ae [ab [bw 2 false],ae [.region false [⟨none,[aa 4 0,((some 5),.op (.rJ (.tmp 4))),aF 6 .eql 5 0,aa 7 6]⟩,⟨(some (7,false)),[aa 8 0,((some 9),.op (.rJ (.tmp 8))),aF 10 .gtr 9 20]⟩,⟨none,[cF 11 7 10,aa 12 11]⟩,⟨(some (12,false)),[aa 13 0,((some 14),.op (.jy (.tmp 13) (.val (.val (.int .i64 0))))),bm 15 193 [14],c4 16 15]⟩,⟨none,[cF 17 12 16]⟩],bf 17 (ae [ab [bw 2 false],.ret])],ae [ab [aT 3 0],bX 0 qL],ab [bw 2 true],.ret],
 [.tmp 2],29⟩
theorem x7:aO Tryz.prog 154 []=some tw:=by kernel_rfl
theorem QK (s:ByteArray) (H:View):av Tryz.prog 154 [gs s] H λr H'=>r=gb (iD (gF s))/\H'=H:=by
 refine av.of mixed x7 ?_
 repeat' (first | ((first|apply ah.dec|apply ah.eq|apply ah.ne|apply ah.split)<;>intro)|(simp(disch:=omega)only[↓wr,seval,wq,tw,fF]))
 .rename_i h
  congr 2;simp[iD,show (gF s).length=0 by omega]
 .rename_i h
  congr 2;simp[iD,show ¬ (gF s).length<=20 by omega]
 .rename_i h1 g
  cases a:gF s with
  | nil=>simp[a] at h1
  | cons c l =>
   repeat' (first | ((first|apply ah.dec|apply ah.eq|apply ah.ne|apply ah.split)<;>intro)|(simp(disch:=omega)only[↓wr,seval,wq,a,aa0,fF]))
   refine ay.pure (K7 c) ?_
   repeat' (first | ((first|apply ah.dec|apply ah.eq|apply ah.ne|apply ah.split)<;>intro)|(simp(disch:=omega)only[↓wr,seval,wq,a,aa0,fF]))
   .rename_i j
    refine aS.intro (λk T H'=>∃ i:Nat,i+k=(c :: l).length/\((c :: l).take i).all qA=true/\T 0=gs s/\T 3=gi i/\H'=H) (c :: l).length ?_ ?_
    .exact⟨0,by omega,by simp,rfl,rfl,rfl⟩
    .rintro k T H' ⟨i,hk,hi,b,e,rfl⟩
     rw[a] at h1 g
     simp(disch:=omega)only[↓wr,seval,wq,qL,b,e,fF,a]
     apply ah.dec<;>intro m
     .simp only[aaK] at m hk g
      have f:(c :: l)[i]?=some ((c :: l)[i]'(by simp;omega)):=aar (by simp;omega)
      have hm:(c :: l)[i]'(by simp;omega)∈c :: l:=aaC _
      generalize (c :: l)[i]'(by simp;omega)=d at f hm
      simp(disch:=omega)only[↓wr,seval,wq,b,e,fF,a,f]
      refine ay.pure (V9 d) ?_
      repeat' (first | ((first|apply ah.dec|apply ah.eq|apply ah.ne|apply ah.split)<;>intro)|(simp(disch:=omega)only[↓wr,seval,wq,b,e,fF,a,f]))
      .rename_i hd
       refine⟨k - 1,by omega,i+1,by omega,?_,rfl⟩
       rw[aaQ,f]
       simp only[Option.toList_some,List.all_append,hi,abP,hd,List.all_nil,Bool.and_self]
      .rename_i hd
       congr 2
       have:(c :: l).all qA=false:=by
        rw[List.all_eq_false];exact⟨d,hm,by simp[hd]⟩
       simp only[iD,this,Bool.and_false]
     .simp(disch:=omega)only[↓wr,seval,wq,b,e]
      simp only[aaK] at m hk g
      rw[aaJ (by simp;omega)] at hi
      congr 2
      simp only[iD,hi,aaK]
      simp[j];omega
   .rename_i j
    congr 2;simp[iD,j]
def oK:List Int->Bool
 | [a,b,c]=>a == 39 && c == 39 && decide (32<=b) && decide (b<=126) && b != 39 && b != 92
 | [a,b,c,d]=>a == 39 && d == 39 && b == 92 && (c == 110 || c == 116 || c == 92 || c == 39)
 | _=>false
theorem VR {l:List Int} (a:l.length≠3) (b:l.length≠4):oK l=false:=by
 match l,a,b with
 | [],_,_=>rfl
 | [_],_,_=>rfl
 | [_,_],_,_=>rfl
 | [_,_,_],a,_=>exact absurd rfl a
 | [_,_,_,_],_,b=>exact absurd rfl b
 | _ :: _ :: _ :: _ :: _ :: _,_,_=>rfl
theorem ZS {α:Type} {l:List α} (h:l.length=3):∃ a b c,l=[a,b,c]:=by
 match l,h with
 | [a,b,c],_=>exact⟨a,b,c,rfl⟩
theorem Zt {α:Type} {l:List α} (h:l.length=4):∃ a b c d,l=[a,b,c,d]:=by
 match l,h with
 | [a,b,c,d],_=>exact⟨a,b,c,d,rfl⟩
def pJ:SF:=⟨ae [ab [bw 2 false],ae [ab [aa 3 0,((some 4),.op (.rJ (.tmp 3))),aF 5 .eql 4 3],bf 5 (ae [.region false [⟨none,[aa 6 0,((some 7),.op (.jy (.tmp 6) (.val (.val (.int .i64 0))))),((some 8),.op (.arith .eql (.tmp 7) (.val (.val (.int .u8 39))))),aa 9 8]⟩,⟨(some (9,true)),[aa 10 0,((some 11),.op (.jy (.tmp 10) (.val (.val (.int .i64 2))))),((some 12),.op (.arith .eql (.tmp 11) (.val (.val (.int .u8 39)))))]⟩,⟨none,[eC 13 9 12,aa 14 13]⟩,⟨(some (14,true)),[aa 15 0,((some 16),.op (.jy (.tmp 15) (.val (.val (.int .i64 1))))),((some 17),.op (.arith .geq (.tmp 16) (.val (.val (.int .u8 32)))))]⟩,⟨none,[eC 18 14 17,aa 19 18]⟩,⟨(some (19,true)),[aa 20 0,((some 21),.op (.jy (.tmp 20) (.val (.val (.int .i64 1))))),((some 22),.op (.arith .leq (.tmp 21) (.val (.val (.int .u8 126)))))]⟩,⟨none,[eC 23 19 22,aa 24 23]⟩,⟨(some (24,true)),[aa 25 0,((some 26),.op (.jy (.tmp 25) (.val (.val (.int .i64 1))))),((some 27),.op (.arith .neq (.tmp 26) (.val (.val (.int .u8 39)))))]⟩,⟨none,[eC 28 24 27,aa 29 28]⟩,⟨(some (29,true)),[aa 30 0,((some 31),.op (.jy (.tmp 30) (.val (.val (.int .i64 1))))),((some 32),.op (.arith .neq (.tmp 31) (.val (.val (.int .u8 92)))))]⟩,⟨none,[eC 33 29 32,aa 2 33]⟩],.ret])],.region false [⟨none,[aa 34 0,((some 35),.op (.rJ (.tmp 34))),aF 36 .eql 35 4,aa 37 36]⟩,⟨(some (37,true)),[aa 38 0,((some 39),.op (.jy (.tmp 38) (.val (.val (.int .i64 0))))),((some 40),.op (.arith .eql (.tmp 39) (.val (.val (.int .u8 39)))))]⟩,⟨none,[eC 41 37 40,aa 42 41]⟩,⟨(some (42,true)),[aa 43 0,((some 44),.op (.jy (.tmp 43) (.val (.val (.int .i64 3))))),((some 45),.op (.arith .eql (.tmp 44) (.val (.val (.int .u8 39)))))]⟩,⟨none,[eC 46 42 45,aa 47 46]⟩,⟨(some (47,true)),[aa 48 0,((some 49),.op (.jy (.tmp 48) (.val (.val (.int .i64 1))))),((some 50),.op (.arith .eql (.tmp 49) (.val (.val (.int .u8 92)))))]⟩,⟨none,[eC 51 47 50,aa 52 51]⟩,⟨(some (52,true)),[aa 53 0,((some 54),.op (.jy (.tmp 53) (.val (.val (.int .i64 2))))),((some 55),.op (.arith .eql (.tmp 54) (.val (.val (.int .u8 110))))),aa 56 55]⟩,⟨(some (56,false)),[aa 57 0,((some 58),.op (.jy (.tmp 57) (.val (.val (.int .i64 2))))),((some 59),.op (.arith .eql (.tmp 58) (.val (.val (.int .u8 116)))))]⟩,⟨(some (52,true)),[cF 60 56 59,aa 61 60]⟩,⟨(some (61,false)),[aa 62 0,((some 63),.op (.jy (.tmp 62) (.val (.val (.int .i64 2))))),((some 64),.op (.arith .eql (.tmp 63) (.val (.val (.int .u8 92)))))]⟩,⟨(some (52,true)),[cF 65 61 64,aa 66 65]⟩,⟨(some (66,false)),[aa 67 0,((some 68),.op (.jy (.tmp 67) (.val (.val (.int .i64 2))))),((some 69),.op (.arith .eql (.tmp 68) (.val (.val (.int .u8 39)))))]⟩,⟨(some (52,true)),[cF 70 66 69]⟩,⟨none,[eC 71 52 70,aa 2 71]⟩],.ret],
 [.tmp 2],72⟩
theorem uS:aO Tryz.prog 192 []=some pJ:=by kernel_rfl
def qR:SF:=⟨ae [ab [bw 2 false],.region false [⟨none,[aa 3 0,bm 4 154 [3],aa 5 4]⟩,⟨(some (5,false)),[aa 6 0,bm 7 192 [6]]⟩,⟨none,[cF 8 5 7,aa 2 8]⟩],.ret],
 [.tmp 2],9⟩
theorem xq:aO Tryz.prog 151 []=some qR:=by kernel_rfl
theorem VJ (s:ByteArray) (H:View):av Tryz.prog 192 [gs s] H λr H'=>r=gb (oK (gF s))/\H'=H:=by
 refine av.of mixed uS ?_
 simp(disch:=omega)only[↓wr,seval,wq,pJ,fF]
 apply ah.eq<;>intro h
 .obtain⟨a,b,c,e⟩:=ZS (l:=gF s) (by omega)
  repeat' (first | ((first|apply ah.dec|apply ah.eq|apply ah.ne|apply ah.split)<;>intro)|(simp(disch:=omega)only[↓wr,seval,wq,e,aa0,abm]))
  all_goals (congr 2;simp only[oK];grind)
 .simp(disch:=omega)only[↓wr,seval,wq,fF]
  apply ah.eq<;>intro f
  .obtain⟨a,b,c,d,e⟩:=Zt (l:=gF s) (by omega)
   repeat' (first | ((first|apply ah.dec|apply ah.eq|apply ah.ne|apply ah.split)<;>intro)|(simp(disch:=omega)only[↓wr,seval,wq,e,aa0,abm]))
   all_goals (congr 2;simp only[oK];grind)
  .repeat' (first | ((first|apply ah.dec|apply ah.eq|apply ah.ne|apply ah.split)<;>intro)|(simp(disch:=omega)only[↓wr,seval,wq,fF]))
   rw[VR (by omega) (by omega)]
theorem rG (s:ByteArray):∀ v∈[gs s],Tree v:=by intro v a;simp at a;subst a;exact .val _
theorem Ig (s:ByteArray):az Tryz.prog 154 [gs s] (gb (iD (gF s))) :=
 az.of (rG s) ((QK s _).mono λr H' h a _=>by rw[h.1];exact .tree _ (.val _))
theorem Us (s:ByteArray):az Tryz.prog 192 [gs s] (gb (oK (gF s))) :=
 az.of (rG s) ((VJ s _).mono λr H' h a _=>by rw[h.1];exact .tree _ (.val _))
def s8 (l:List Int):Bool:=iD l || oK l
theorem Qn (s:ByteArray) (H:View):av Tryz.prog 151 [gs s] H λr H'=>r=gb (s8 (gF s))/\H'=H:=by
 refine av.of mixed xq ?_
 simp(disch:=omega)only[↓wr,seval,wq,qR]
 refine ay.pure (Ig s) ?_
 repeat' (first | ((first|apply ah.dec|apply ah.eq|apply ah.ne|apply ah.split)<;>intro)|(simp(disch:=omega)only[↓wr,seval,wq]))
 .rename_i h;simp[s8,h]
 .rename_i h
  refine ay.pure (Us s) ?_
  repeat' (first | ((first|apply ah.dec|apply ah.eq|apply ah.ne|apply ah.split)<;>intro)|(simp(disch:=omega)only[↓wr,seval,wq]))
  simp[s8,h]
theorem PZ (s:ByteArray):az Tryz.prog 151 [gs s] (gb (s8 (gF s))) :=
 az.of (rG s) ((Qn s _).mono λr H' h a _=>by rw[h.1];exact .tree _ (.val _))
def qI (s:ByteArray):List ByteArray->Int->Int
 | [],_=>-1
 | x :: l,i=>if j8 x s=true then i else qI s l (i+1)
def oC (g:ai) (s:ByteArray):Int:=qI s (g.af.map Term.name) 0
def Bm (g:ai) (s:ByteArray):Int:=qI s g.ak 0
theorem eZ {α:Type} {l:List α} {i:Nat} (h:i < l.length):l.drop i=l[i] :: l.drop (i+1):=abg h
theorem LP (g:ai) (s:ByteArray):∀ v∈[V.agg (ag g),gs s],Tree v:=by
 intro v a;simp at a
 rcases a with rfl | rfl
 .exact cn _ (dq g)
 .exact .val _
theorem eK (g:ai):∀ v∈[V.agg (ag g)],Tree v:=by intro v a;simp at a;subst a;exact cn _ (dq g)
theorem KS (g:ai) (x:Int):∀ v∈[V.agg (ag g),gi x],Tree v:=by
 intro v a;simp at a
 rcases a with rfl | rfl
 .exact cn _ (dq g)
 .exact .val _
theorem az.val {P:Program} {f:FuncId} {vs:List V} {x:Value} (a:∀ v∈vs,Tree v) (h:∀ H,av P f vs H λr _=>r=.val x):az P f vs (.val x) :=
 az.of a ((h _).mono λr H' e b _=>by rw[e];exact .tree _ (.val _))
def qO:SC :=
 ae [ae [ab [aa 6 5,ao 7 0 2,aj 8 7,aM 9 8,aQ 10 .lss 6 9],bS 10 (.exit 0)],.block 1 (ae [ab [ao 13 0 2,aj 14 13,aa 15 5,aI 16 3 14 15,ao 17 0 16,aj 18 17,aa 19 1,((some 20),.op (.AB .eql (.tmp 18) (.tmp 19)))],bf 20 (ae [ab [aa 21 5,aa 4 21],.ret])]),ab [aa 11 5,aF 12 .add 11 1,aa 5 12]]
def sU:SF:=⟨ae [ab [cy 2 0,aT 4 0],ae [ab [aT 5 0],bX 0 qO],ab [aT 4 (-1)],.ret],
 [.tmp 4],22⟩
theorem xZ:aO Tryz.prog 152 [2]=some sU:=by kernel_rfl
def qW:SC :=
 ae [ae [ab [aa 6 5,ao 7 1 2,aj 8 7,aM 9 8,aQ 10 .lss 6 9],bS 10 (.exit 0)],.block 1 (ae [ab [ao 13 1 2,aj 14 13,aa 15 5,aI 16 1 14 15,aj 17 16,aa 18 1,((some 19),.op (.AB .eql (.tmp 17) (.tmp 18)))],bf 19 (ae [ab [aa 20 5,aa 4 20],.ret])]),ab [aa 11 5,aF 12 .add 11 1,aa 5 12]]
def tP:SF:=⟨ae [ab [cy 2 0,aT 4 0],ae [ab [aT 5 0],bX 0 qW],ab [aT 4 (-1)],.ret],
 [.tmp 4],21⟩
theorem zX:aO Tryz.prog 139 [2]=some tP:=by kernel_rfl
def pN:SC :=
 ae [ae [ab [aa 8 6,ao 9 0 2,aj 10 9,aM 11 10,aQ 12 .lss 8 11],bS 12 (.exit 0)],.block 1 (ae [.region false [⟨none,[ao 15 0 2,aj 16 15,aa 17 6,aI 18 3 16 17,aY 19 3 18,((some 7),.op (.alloc [(.val (.string ⟨#[]⟩)),(.val (.int .i64 0)),(.val (.int .i64 0))])),bZ 3 7 19]⟩],ae [ab [ao 20 1 7,aj 21 20,aa 22 1,aQ 23 .neq 21 22],bf 23 (.exit 1)],ae [.region false [⟨none,[aa 24 5,aF 25 .neq 24 0,aa 26 25]⟩,⟨(some (26,true)),[aa 27 5,ao 28 2 7,aj 29 28,aQ 30 .neq 27 29]⟩,⟨none,[eC 31 26 30]⟩],bf 31 (ae [ab [bw 4 false],.ret])],ab [ao 32 2 7,aj 33 32,aa 5 33]]),ab [aa 13 6,aF 14 .add 13 1,aa 6 14]]
def rb:SF:=⟨ae [ab [cy 2 0,bw 4 false],ab [aT 5 0],ae [ab [aT 6 0],bX 0 pN],ab [aa 34 5,aF 35 .neq 34 0,aa 4 35],.ret],
 [.tmp 4],36⟩
theorem xu:aO Tryz.prog 153 [2]=some rb:=by kernel_rfl
theorem RT (g:ai) (d:g.Ok) (s:ByteArray) (H:View):av Tryz.prog 152 [.agg (ag g),gs s] H λr _=>r=gi (oC g s):=by
 refine av.of mixed xZ ?_
 have hs:g.af.length < 4611686018427387904:=d.af
 simp(disch:=omega)only[↓wr,seval,wq,sU,ag,encS]
 refine aS.intro (λk T _=>∃ i:Nat,i+k=g.af.length/\qI s ((g.af.drop i).map Term.name) i=oC g s/\T 1=gs s/\T 2=.aH (ag g) 0/\T 5=gi i) g.af.length ?_ ?_
 .exact⟨0,by omega,rfl,rfl,rfl,rfl⟩
 .rintro k T H' ⟨i,hk,hi,h1,a,b⟩
  simp(disch:=omega)only[↓wr,seval,wq,qO,h1,a,b,ag]
  apply ah.dec<;>intro e
  .have c:g.af[i]?=some (g.af[i]'(by omega)):=aar (by omega)
   rw[eZ (show i < g.af.length by omega)] at hi
   generalize g.af[i]'(by omega)=t at c hi
   simp only[aaW,qI] at hi
   simp(disch:=omega)only[↓wr,seval,wq,h1,a,b,ag,cm,aav,c,aaz]
   apply ah.split<;>intro hd
   .rw[aaw hd] at hi
    simp(disch:=omega)only[↓wr,seval,wq,h1,a,b]
    rw[hi]
   .rw[hd,aat (by simp)] at hi
    simp(disch:=omega)only[↓wr,seval,wq,h1,a,b]
    exact⟨k - 1,by omega,i+1,by omega,by push_cast;exact hi,rfl,rfl⟩
  .rw[aaV (by omega)] at hi
   simp only[ab3,qI] at hi
   simp(disch:=omega)only[↓wr,seval,wq,h1,a,b]
   rw[hi]
theorem Iy (g:ai) (a:g.Ok) (s:ByteArray):az Tryz.prog 152 [.agg (ag g),gs s] (gi (oC g s)):=az.val (LP g s) (RT g a s)
theorem V8 (g:ai) (d:g.Ok) (s:ByteArray) (H:View):av Tryz.prog 139 [.agg (ag g),gs s] H λr _=>r=gi (Bm g s):=by
 refine av.of mixed zX ?_
 have hs:g.ak.length < 4611686018427387904:=d.ak
 simp(disch:=omega)only[↓wr,seval,wq,tP,ag,encS]
 refine aS.intro (λk T _=>∃ i:Nat,i+k=g.ak.length/\qI s (g.ak.drop i) i=Bm g s/\T 1=gs s/\T 2=.aH (ag g) 0/\T 5=gi i) g.ak.length ?_ ?_
 .exact⟨0,by omega,rfl,rfl,rfl,rfl⟩
 .rintro k T H' ⟨i,hk,hi,h1,a,b⟩
  simp(disch:=omega)only[↓wr,seval,wq,qW,h1,a,b,ag,encS]
  apply ah.dec<;>intro e
  .have c:g.ak[i]?=some (g.ak[i]'(by omega)):=aar (by omega)
   rw[eZ (show i < g.ak.length by omega)] at hi
   generalize g.ak[i]'(by omega)=t at c hi
   simp only[aaW,qI] at hi
   simp(disch:=omega)only[↓wr,seval,wq,h1,a,b,ag,encS,aav,c,aaz]
   apply ah.split<;>intro hd
   .rw[aaw hd] at hi
    simp(disch:=omega)only[↓wr,seval,wq,h1,a,b]
    rw[hi]
   .rw[hd,aat (by simp)] at hi
    simp(disch:=omega)only[↓wr,seval,wq,h1,a,b]
    exact⟨k - 1,by omega,i+1,by omega,by push_cast;exact hi,rfl,rfl⟩
  .rw[aaV (by omega)] at hi
   simp only[ab3,qI] at hi
   simp(disch:=omega)only[↓wr,seval,wq,h1,a,b]
   rw[hi]
theorem V6 (g:ai) (a:g.Ok) (s:ByteArray):az Tryz.prog 139 [.agg (ag g),gs s] (gi (Bm g s)):=az.val (LP g s) (V8 g a s)
def kA (n:Int):List Term->Int->Option Int
 | [],way=>some way
 | t :: r,way=>if t.level=n then (if way≠0/\way≠t.assoc then none else kA n r t.assoc) else kA n r way
def jg (l:List Term) (n:Int):Bool:=match kA n l 0 with
 | some w=>w != 0
 | none=>false
theorem PJ (g:ai) (j:g.Ok) (n:Int) (H:View):av Tryz.prog 153 [.agg (ag g),gi n] H λr _=>r=gb (jg g.af n):=by
 refine av.of mixed xu ?_
 have hs:g.af.length < 4611686018427387904:=j.af
 simp(disch:=omega)only[↓wr,seval,wq,rb,ag,encS]
 refine aS.intro (λk T _=>∃ (i:Nat) (w:Int),i+k=g.af.length/\kA n (g.af.drop i) w=kA n g.af 0/\T 1=gi n/\T 2=.aH (ag g) 0/\T 5=gi w/\T 6=gi i) g.af.length ?_ ?_
 .exact⟨0,0,by omega,rfl,rfl,rfl,rfl,rfl⟩
 .rintro k T H' ⟨i,w,hk,hi,h1,c,d,f⟩
  simp(disch:=omega)only[↓wr,seval,wq,pN,h1,c,d,f,ag]
  apply ah.dec<;>intro l
  .have h:g.af[i]?=some (g.af[i]'(by omega)):=aar (by omega)
   rw[eZ (show i < g.af.length by omega)] at hi
   generalize g.af[i]'(by omega)=t at h hi
   simp only[kA] at hi
   simp(disch:=omega)only[↓wr,seval,wq,h1,c,d,f,ag,cm,aav,h,aaz]
   intro m hm
   try simp(disch:=omega)only[↓wr,seval,wq,h1,c,d,f]
   apply ah.ne<;>intro hd
   .rw[aat hd] at hi
    simp(disch:=omega)only[↓wr,seval,wq,h1,c,d,f]
    exact⟨k - 1,by omega,i+1,w,by omega,hi,by first | rfl | exact⟨rfl,rfl⟩ | exact⟨rfl,rfl,rfl⟩⟩
   .rw[aaw hd] at hi
    repeat' (first | ((first|apply ah.dec|apply ah.eq|apply ah.ne|apply ah.split)<;>intro)|(simp(disch:=omega)only[↓wr,seval,wq,h1,c,d,f]))
    .rename_i a b
     rw[aaw ⟨a,b⟩] at hi
     simp only[jg,<-hi]
    .rename_i a b
     rw[aat (λe=>e.2 b)] at hi
     exact⟨k - 1,by omega,i+1,_,by omega,hi,by first | rfl | exact⟨rfl,rfl⟩ | exact⟨rfl,rfl,rfl⟩⟩
    .rename_i a
     rw[aat (λe=>e.1 a)] at hi
     exact⟨k - 1,by omega,i+1,_,by omega,hi,by first | rfl | exact⟨rfl,rfl⟩ | exact⟨rfl,rfl,rfl⟩⟩
  .rw[aaV (by omega)] at hi
   simp only[kA] at hi
   simp(disch:=omega)only[↓wr,seval,wq,h1,c,d,f]
   simp only[jg,<-hi]
theorem O4 (g:ai) (a:g.Ok) (n:Int):az Tryz.prog 153 [.agg (ag g),gi n] (gb (jg g.af n)):=az.val (KS g n) (PJ g a n)
def ub (g:ai) (t:Term):Bool:=(List.range t.level.toNat).all λk=>jg g.af ((k:Int)+1)
def mb (g:ai) (i:Int) (t:Term):Bool :=
 s8 (gF t.name) && (oC g t.name == i) && decide (0<=t.level) && decide (t.level<=24) && decide (0<=t.assoc) && decide (t.assoc<=3) && ((t.level == 0) == (t.assoc == 0)) && ub g t
def lj (g:ai):List Term->Int->Bool
 | [],_=>true
 | t :: r,i=>mb g i t && lj g r (i+1)
def lE (g:ai):Bool:=decide (g.af.length<=24) && lj g g.af 0
def pb:SC :=
 ae [ae [ab [aa 63 5,ao 64 1 4,aj 65 64,aQ 66 .leq 63 65],bS 66 (.exit 2)],.block 3 (ae [ab [aY 69 4 1,aa 70 5,bm 71 153 [69,70],c4 72 71],bf 72 (ae [ab [bw 2 false],.ret])]),ab [aa 67 5,aF 68 .add 67 1,aa 5 68]]
def pa:SC :=
 ae [ae [ab [aa 10 3,ao 11 0 1,aj 12 11,aM 13 12,aQ 14 .lss 10 13],bS 14 (.exit 0)],.block 1 (ae [.region false [⟨none,[ao 17 0 1,aj 18 17,aa 19 3,aI 20 3 18 19,aY 21 3 20,((some 4),.op (.alloc [(.val (.string ⟨#[]⟩)),(.val (.int .i64 0)),(.val (.int .i64 0))])),bZ 3 4 21]⟩],ae [.region false [⟨none,[ao 22 0 4,aj 23 22,bm 24 151 [23],c4 25 24,aa 26 25]⟩,⟨(some (26,false)),[aY 27 4 1,ao 28 0 4,aj 29 28,bm 30 152 [27,29],aa 31 3,aQ 32 .neq 30 31]⟩,⟨none,[cF 33 26 32,aa 34 33]⟩,⟨(some (34,false)),[ao 35 1 4,aj 36 35,aF 37 .lss 36 0]⟩,⟨none,[cF 38 34 37,aa 39 38]⟩,⟨(some (39,false)),[ao 40 1 4,aj 41 40,aF 42 .gtr 41 24]⟩,⟨none,[cF 43 39 42,aa 44 43]⟩,⟨(some (44,false)),[ao 45 2 4,aj 46 45,aF 47 .lss 46 0]⟩,⟨none,[cF 48 44 47,aa 49 48]⟩,⟨(some (49,false)),[ao 50 2 4,aj 51 50,aF 52 .gtr 51 3]⟩,⟨none,[cF 53 49 52,aa 54 53]⟩,⟨(some (54,false)),[ao 55 1 4,aj 56 55,aF 57 .eql 56 0,ao 58 2 4,aj 59 58,aF 60 .eql 59 0,((some 61),.op (.beq false (.tmp 57) (.tmp 60)))]⟩,⟨none,[cF 62 54 61]⟩],bf 62 (ae [ab [bw 2 false],.ret])],ab [aT 5 1],bX 2 pb]),ab [aa 15 3,aF 16 .add 15 1,aa 3 16]]
def qS:SF:=⟨ae [ab [cy 1 0,bw 2 false],ae [ab [ao 6 0 1,aj 7 6,aM 8 7,aF 9 .gtr 8 24],bf 9 (ae [ab [bw 2 false],.ret])],ae [ab [aT 3 0],bX 0 pa],ab [bw 2 true],.ret],
 [.tmp 2],73⟩
theorem xA:aO Tryz.prog 104 [1]=some qS:=by kernel_rfl
def qa:SC :=
 ae [ae [ab [aa 14 3,ao 15 1 1,aj 16 15,aM 17 16,aQ 18 .lss 14 17],bS 18 (.exit 0)],.block 1 (ae [.region false [⟨none,[ao 21 1 1,aj 22 21,aa 23 3,aI 24 1 22 23,aj 25 24,bm 26 154 [25],c4 27 26,aa 28 27]⟩,⟨(some (28,false)),[aY 29 4 1,ao 30 1 1,aj 31 30,aa 32 3,aI 33 1 31 32,aj 34 33,bm 35 139 [29,34],aa 36 3,aQ 37 .neq 35 36]⟩,⟨none,[cF 38 28 37,aa 39 38]⟩,⟨(some (39,false)),[aY 40 4 1,ao 41 1 1,aj 42 41,aa 43 3,aI 44 1 42 43,aj 45 44,bm 46 152 [40,45],aF 47 .geq 46 0]⟩,⟨none,[cF 48 39 47]⟩],bf 48 (ae [ab [bw 2 false],.ret])]),ab [aa 19 3,aF 20 .add 19 1,aa 3 20]]
def sK:SF:=⟨ae [ab [cy 1 0,bw 2 false],ae [.region false [⟨none,[ao 4 1 1,aj 5 4,aM 6 5,aF 7 .lss 6 1,aa 8 7]⟩,⟨(some (8,false)),[ao 9 1 1,aj 10 9,aM 11 10,aF 12 .gtr 11 16]⟩,⟨none,[cF 13 8 12]⟩],bf 13 (ae [ab [bw 2 false],.ret])],ae [ab [aT 3 0],bX 0 qa],ab [bw 2 true],.ret],
 [.tmp 2],49⟩
theorem yx:aO Tryz.prog 105 [1]=some sK:=by kernel_rfl
def qf:SC :=
 ae [ae [ab [aa 23 5,ao 24 1 3,aj 25 24,aM 26 25,aQ 27 .lss 23 26],bS 27 (.exit 0)],.block 1 (ae [.region false [⟨none,[aY 30 4 2,ao 31 1 3,aj 32 31,aa 33 5,aI 34 1 32 33,aj 35 34,bm 36 155 [30,35],c4 37 36,aa 38 37]⟩,⟨(some (38,false)),[ao 39 1 3,aj 40 39,aa 41 5,aI 42 1 40 41,aj 43 42,aF 44 .geq 43 0,aa 45 44]⟩,⟨(some (45,true)),[ao 46 2 3,aj 47 46,aF 48 .eql 47 (-1)]⟩,⟨(some (38,false)),[eC 49 45 48]⟩,⟨none,[cF 50 38 49]⟩],bf 50 (ae [ab [bw 4 false],.ret])]),ab [aa 28 5,aF 29 .add 28 1,aa 5 29]]
def sN:SF:=⟨ae [ab [cy 2 0,cy 3 1,bw 4 false],ae [.region false [⟨none,[ao 6 1 3,aj 7 6,aM 8 7,aF 9 .gtr 8 6,aa 10 9]⟩,⟨(some (10,false)),[ao 11 2 3,aj 12 11,aF 13 .lss 12 (-1)]⟩,⟨none,[cF 14 10 13,aa 15 14]⟩,⟨(some (15,false)),[ao 16 2 3,aj 17 16,ao 18 0 2,aj 19 18,aM 20 19,aQ 21 .geq 17 20]⟩,⟨none,[cF 22 15 21]⟩],bf 22 (ae [ab [bw 4 false],.ret])],ae [ab [aT 5 0],bX 0 qf],ab [bw 4 true],.ret],
 [.tmp 4],51⟩
theorem xX:aO Tryz.prog 106 [2,3]=some sN:=by kernel_rfl
def pB:SC :=
 ae [ae [ab [aa 39 4,ao 40 2 1,aj 41 40,aM 42 41,aQ 43 .lss 39 42],bS 43 (.exit 0)],.block 1 (ae [ab [ao 46 2 1,aj 47 46,aa 48 4,aI 49 3 47 48,aY 50 3 49,((some 5),.op (.alloc [(.val (.int .i64 0)),(.emp 1),(.val (.int .i64 0))])),bZ 3 5 50],ae [.region false [⟨none,[ao 51 0 5,aj 52 51,aF 53 .lss 52 0,aa 54 53]⟩,⟨(some (54,false)),[ao 55 0 5,aj 56 55,aa 57 3,aF 58 .add 57 1,aQ 59 .gtr 56 58]⟩,⟨none,[cF 60 54 59,aa 61 60]⟩,⟨(some (61,false)),[aY 62 4 1,aY 63 3 5,bm 64 106 [62,63],c4 65 64]⟩,⟨none,[cF 66 61 65]⟩],bf 66 (ae [ab [bw 2 false],.ret])],ab [ao 67 0 5,aj 68 67,aa 69 3,aQ 70 .gtr 68 69],bf 70 (ab [ao 71 0 5,aj 72 71,aa 3 72])]),ab [aa 44 4,aF 45 .add 44 1,aa 4 45]]
def rn:SF:=⟨ae [ab [cy 1 0,bw 2 false],ae [.region false [⟨none,[aY 6 4 1,bm 7 104 [6],c4 8 7,aa 9 8]⟩,⟨(some (9,false)),[aY 10 4 1,bm 11 105 [10],c4 12 11]⟩,⟨none,[cF 13 9 12,aa 14 13]⟩,⟨(some (14,false)),[ao 15 2 1,aj 16 15,aM 17 16,aF 18 .lss 17 1]⟩,⟨none,[cF 19 14 18,aa 20 19]⟩,⟨(some (20,false)),[ao 21 2 1,aj 22 21,aM 23 22,aF 24 .gtr 23 40]⟩,⟨none,[cF 25 20 24,aa 26 25]⟩,⟨(some (26,false)),[ao 27 3 1,aj 28 27,aF 29 .lss 28 0]⟩,⟨none,[cF 30 26 29,aa 31 30]⟩,⟨(some (31,false)),[ao 32 3 1,aj 33 32,ao 34 1 1,aj 35 34,aM 36 35,aQ 37 .geq 33 36]⟩,⟨none,[cF 38 31 37]⟩],bf 38 (ae [ab [bw 2 false],.ret])],ab [aT 3 (-1)],ae [ab [aT 4 0],bX 0 pB],ab [aa 73 3,ao 74 1 1,aj 75 74,aM 76 75,aF 77 .sub 76 1,aQ 78 .eql 73 77,aa 2 78],.ret],
 [.tmp 2],79⟩
theorem xp:aO Tryz.prog 54 [1]=some rn:=by kernel_rfl
theorem PY (g:ai) (p:g.Ok) (H:View):av Tryz.prog 104 [.agg (ag g)] H λr _=>r=gb (lE g):=by
 refine av.of mixed xA ?_
 simp(disch:=omega)only[↓wr,seval,wq,qS,ag,encS]
 apply ah.dec<;>intro h
 .simp(disch:=omega)only[↓wr,seval,wq]
  simp[lE,show ¬ g.af.length<=24 by omega]
 .have hle:g.af.length<=24:=by omega
  simp(disch:=omega)only[↓wr,seval,wq]
  refine aS.intro (λk T _=>∃ i:Nat,i+k=g.af.length/\lj g (g.af.drop i) i=lj g g.af 0/\T 1=.aH (ag g) 0/\T 3=gi i) g.af.length ?_ ?_
  .exact⟨0,by omega,rfl,rfl,rfl⟩
  .rintro k T H' ⟨i,hk,hi,h1,d⟩
   simp(disch:=omega)only[↓wr,seval,wq,pa,h1,d,ag]
   apply ah.dec<;>intro y
   .have f:g.af[i]?=some (g.af[i]'(by omega)):=aar (by omega)
    rw[eZ (show i < g.af.length by omega)] at hi
    have b:g.af[i]'(by omega)∈g.af:=aaC _
    generalize g.af[i]'(by omega)=t at f hi b
    obtain⟨⟨z,A⟩,⟨B,C⟩⟩:=p.term t b
    simp only[lj] at hi
    have a:mb g i t=false->gb false=gb (lE g):=λe=>by rw[e,ab8] at hi;simp[lE,<-hi]
    simp(disch:=omega)only[↓wr,seval,wq,h1,d,ag,cm,aav,f,aaz]
    intro m hm
    try simp(disch:=omega)only[↓wr,seval,wq,h1,d]
    refine ay.pure (PZ t.name) ?_
    repeat' (first | ((first|apply ah.dec|apply ah.eq|apply ah.ne|apply ah.split)<;>intro)|(simp(disch:=omega)only[↓wr,seval,wq,h1,d,ag]))
    all_goals try (refine a ?_;simp[mb, *];done)
    rename_i s
    refine ay.pure (Iy g p t.name) ?_
    repeat' (first | ((first|apply ah.dec|apply ah.eq|apply ah.ne|apply ah.split)<;>intro)|(simp(disch:=omega)only[↓wr,seval,wq,h1,d,ag]))
    all_goals try (refine a ?_;simp[mb, *];done)
    all_goals try (refine a ?_;simp[mb];grind)
    rename_i D I J K L E
    have c:mb g i t=ub g t:=by
     have u:((t.level == 0) == (t.assoc == 0))=true:=by simpa using E
     simp[mb,s,D,u,show (0:Int)<=t.level by omega,show t.level<=24 by omega,show (0:Int)<=t.assoc by omega,show t.assoc<=3 by omega]
    refine aS.intro (λv T l=>∃ j:Nat,1<=j/\j+v=t.level.toNat+1/\(∀ q:Nat,q+1 < j->jg g.af ((q:Int)+1)=true)/\T 1=.aH (ag g) 0/\T 3=gi i/\T 4=.ptr m 0 0/\l m=.arr 3 [[gs t.name,gi t.level,gi t.assoc]]/\T 5=gi j) t.level.toNat ?_ ?_
    .refine⟨1,by omega,by omega,λq hq=>by omega,?_⟩
     simp(disch:=omega)only[↓wr,↓reduceIte,wq,Nat.reduceEqDiff,Nat.reduceAdd,Nat.reduceLT,Nat.reduceLeDiff,Int.reduceNeg,Int.reduceToNat,reduceCtorEq,h1,d,ag]
     rfl
    .rintro v M l ⟨j,F,G,n,f1,f3,f4,o,f5⟩
     simp(disch:=omega)only[↓wr,seval,wq,pb,f1,f3,f4,f5,o]
     apply ah.dec<;>intro hd
     .simp(disch:=omega)only[↓wr,seval,wq,f1,f3,f4,f5,o,ag]
      refine ay.pure (O4 g p j) ?_
      repeat' (first | ((first|apply ah.dec|apply ah.eq|apply ah.ne|apply ah.split)<;>intro)|(simp(disch:=omega)only[↓wr,seval,wq,f1,f3,f4,f5,o,ag]))
      .rename_i w
       refine⟨v - 1,by omega,j+1,by omega,by omega,λq hq=>?_,by first | rfl | exact⟨rfl,rfl⟩ | exact⟨rfl,rfl,rfl⟩⟩
       by_cases e:q+1=j
       .have:(q:Int)+1=j:=by omega
        rw[this];exact w
       .exact n q (by omega)
      .rename_i w
       refine a ?_
       rw[c,ub,List.all_eq_false]
       refine⟨j - 1,by simp;omega,?_⟩
       have:((j - 1:Nat):Int)+1=j:=by omega
       rw[this,w];simp
     .simp(disch:=omega)only[↓wr,seval,wq,f1,f3,f4,f5,o]
      refine⟨k - 1,by omega,i+1,by omega,?_,by first | rfl | exact⟨rfl,rfl⟩ | exact⟨rfl,rfl,rfl⟩⟩
      have x:ub g t=true:=by
       rw[ub,aaX]
       intro q hq
       exact n q (by simp at hq;omega)
      rw[c,x,abE] at hi
      push_cast;exact hi
   .rw[aaV (by omega)] at hi
    simp only[lj] at hi
    simp(disch:=omega)only[↓wr,seval,wq,h1,d]
    simp[lE,hle,<-hi]
theorem PB (g:ai) (a:g.Ok):az Tryz.prog 104 [.agg (ag g)] (gb (lE g)):=az.val (eK g) (PY g a)
def nQ (g:ai) (i:Int) (s:ByteArray):Bool:=iD (gF s) && (Bm g s == i) && decide (oC g s < 0)
def uy (g:ai):List ByteArray->Int->Bool
 | [],_=>true
 | s :: r,i=>nQ g i s && uy g r (i+1)
def mJ (g:ai):Bool:=decide (1<=g.ak.length) && decide (g.ak.length<=16) && uy g g.ak 0
theorem SE (g:ai) (h:g.Ok) (H:View):av Tryz.prog 105 [.agg (ag g)] H λr _=>r=gb (mJ g):=by
 refine av.of mixed yx ?_
 repeat' (first | ((first|apply ah.dec|apply ah.eq|apply ah.ne|apply ah.split)<;>intro)|(simp(disch:=omega)only[↓wr,seval,wq,sK,ag,encS]))
 .simp[mJ,show ¬ 1<=g.ak.length by omega]
 .simp[mJ,show ¬ g.ak.length<=16 by omega]
 .have hle:g.ak.length<=16:=by omega
  refine aS.intro (λk T _=>∃ i:Nat,i+k=g.ak.length/\uy g (g.ak.drop i) i=uy g g.ak 0/\T 1=.aH (ag g) 0/\T 3=gi i) g.ak.length ?_ ?_
  .exact⟨0,by omega,rfl,rfl,rfl⟩
  .rintro k T H' ⟨i,hk,hi,h1,c⟩
   simp(disch:=omega)only[↓wr,seval,wq,qa,h1,c,ag,encS]
   apply ah.dec<;>intro j
   .have b:g.ak[i]?=some (g.ak[i]'(by omega)):=aar (by omega)
    rw[eZ (show i < g.ak.length by omega)] at hi
    generalize g.ak[i]'(by omega)=t at b hi
    simp only[uy] at hi
    have a:nQ g i t=false->gb false=gb (mJ g):=λe=>by rw[e,ab8] at hi;simp[mJ,<-hi]
    simp(disch:=omega)only[↓wr,seval,wq,h1,c,ag,encS,aav,b,aaz]
    refine ay.pure (Ig t) ?_
    repeat' (first | ((first|apply ah.dec|apply ah.eq|apply ah.ne|apply ah.split)<;>intro)|(simp(disch:=omega)only[↓wr,seval,wq,h1,c,ag,encS,aav,b,aaz]))
    all_goals try (refine a ?_;simp[nQ, *];done)
    rename_i d
    refine ay.pure (V6 g h t) ?_
    repeat' (first | ((first|apply ah.dec|apply ah.eq|apply ah.ne|apply ah.split)<;>intro)|(simp(disch:=omega)only[↓wr,seval,wq,h1,c,ag,encS,aav,b,aaz]))
    all_goals try (refine a ?_;simp[nQ, *];done)
    rename_i f
    refine ay.pure (Iy g h t) ?_
    repeat' (first | ((first|apply ah.dec|apply ah.eq|apply ah.ne|apply ah.split)<;>intro)|(simp(disch:=omega)only[↓wr,seval,wq,h1,c,ag,encS]))
    all_goals try (refine a ?_;simp[nQ, *];done)
    rename_i l
    refine⟨k - 1,by omega,i+1,by omega,?_,by first | rfl | exact⟨rfl,rfl⟩ | exact⟨rfl,rfl,rfl⟩⟩
    have:nQ g i t=true:=by simp[nQ,d,f,show oC g t < 0 by omega]
    rw[this,abE] at hi
    push_cast;exact hi
   .rw[aaV (by omega)] at hi
    simp only[uy] at hi
    simp(disch:=omega)only[↓wr,seval,wq,h1,c]
    simp[mJ,hle,show 1<=g.ak.length by omega,<-hi]
theorem QT (g:ai) (a:g.Ok):az Tryz.prog 105 [.agg (ag g)] (gb (mJ g)):=az.val (eK g) (SE g a)
def oV (g:ai) (prec s:Int):Bool:=fP g s && !(decide (0<=s) && prec == -1)
def jJ (g:ai) (r:bg):Bool:=decide (r.right.length<=6) && decide (-1<=r.prec) && decide (r.prec < g.af.length) && r.right.all (oV g r.prec)
theorem Lc (g:ai) (r:bg):∀ v∈[V.agg (ag g),V.agg (aU r)],Tree v:=by
 intro v a;simp at a
 rcases a with rfl | rfl
 .exact cn _ (dq g)
 .exact cn _ (iQ r)
theorem Tg (g:ai) (r:bg) (hr:aK r.right/\∀ x∈r.right,b6 x) (H:View):av Tryz.prog 106 [.agg (ag g),.agg (aU r)] H λv _=>v=gb (jJ g r):=by
 refine av.of mixed xX ?_
 repeat' (first | ((first|apply ah.dec|apply ah.eq|apply ah.ne|apply ah.split)<;>intro)|(simp(disch:=omega)only[↓wr,seval,wq,sN,ag,encS,aU,encI]))
 .simp[jJ,show ¬ r.right.length<=6 by omega]
 .simp[jJ,show ¬ -1<=r.prec by omega]
 .simp[jJ,show ¬ r.prec < g.af.length by omega]
 .have hle:r.right.length<=6:=by omega
  have j : -1<=r.prec:=by omega
  have l:r.prec < g.af.length:=by omega
  refine aS.intro (λk T _=>∃ i:Nat,i+k=r.right.length/\(r.right.drop i).all (oV g r.prec)=r.right.all (oV g r.prec)/\T 2=.aH (ag g) 0/\T 3=.aH (aU r) 0/\T 5=gi i) r.right.length ?_ ?_
  .exact⟨0,by omega,rfl,rfl,rfl,rfl⟩
  .rintro k T H' ⟨i,hk,hi,d,f,h⟩
   simp(disch:=omega)only[↓wr,seval,wq,qf,d,f,h,aU,encI]
   apply ah.dec<;>intro o
   .have b:r.right[i]?=some (r.right[i]'(by omega)):=aar (by omega)
    rw[eZ (show i < r.right.length by omega)] at hi
    have a:r.right[i]'(by omega)∈r.right:=aaC _
    generalize r.right[i]'(by omega)=t at b hi a
    have m:=hr.2 t a
    simp only[abP] at hi
    have c:oV g r.prec t=false->gb false=gb (jJ g r):=λe=>by rw[e,ab8] at hi;simp only[jJ,<-hi,Bool.and_false]
    have n:oV g r.prec t=true->(r.right.drop (i+1)).all (oV g r.prec)=r.right.all (oV g r.prec):=λe=>by rw[e,abE] at hi;exact hi
    simp(disch:=omega)only[↓wr,seval,wq,d,f,h,ag,encS,aU,encI,aav,b,aaz]
    refine ay.pure (Sw g t m) ?_
    repeat' (first | ((first|apply ah.dec|apply ah.eq|apply ah.ne|apply ah.split)<;>intro)|(simp(disch:=omega)only[↓wr,seval,wq,d,f,h,ag,encS,aU,encI,aav,b,aaz]))
    all_goals first
     | (refine c ?_;simp[oV, *];done)
     | (refine⟨k - 1,by omega,i+1,by omega,n (by simp[oV, *];done),by first | rfl | exact⟨rfl,rfl⟩ | exact⟨rfl,rfl,rfl⟩⟩)
     | skip
   .rw[aaV (by omega)] at hi
    simp only[List.all_nil] at hi
    simp(disch:=omega)only[↓wr,seval,wq,d,f,h]
    simp only[jJ,hle,j,l,decide_true,abE,<-hi]
theorem Ri (g:ai) (r:bg) (hr:aK r.right/\∀ x∈r.right,b6 x):az Tryz.prog 106 [.agg (ag g),.agg (aU r)] (gb (jJ g r)):=az.val (Lc g r) (Tg g r hr)
def jd (g:ai):List bg->Int->Bool
 | [],top=>top == (g.ak.length:Int) - 1
 | r :: l,top=>decide (0<=r.left) && decide (r.left<=top+1) && jJ g r && jd g l (if r.left > top then r.left else top)
def bC (g:ai):Bool :=
 lE g && mJ g && decide (1<=g.rules.length) && decide (g.rules.length<=40) && decide (0<=g.start) && decide (g.start < g.ak.length) && jd g g.rules (-1)
theorem Qd (g:ai) (h:g.Ok) (H:View):av Tryz.prog 54 [.agg (ag g)] H λr _=>r=gb (bC g):=by
 refine av.of mixed xp ?_
 have o:=h.ak
 unfold aK at o
 simp(disch:=omega)only[↓wr,seval,wq,rn,ag,encS]
 refine ay.pure (PB g h) ?_
 repeat' (first | ((first|apply ah.dec|apply ah.eq|apply ah.ne|apply ah.split)<;>intro)|(simp(disch:=omega)only[↓wr,seval,wq,ag,encS]))
 .rename_i h1
  refine ay.pure (QT g h) ?_
  repeat' (first | ((first|apply ah.dec|apply ah.eq|apply ah.ne|apply ah.split)<;>intro)|(simp(disch:=omega)only[↓wr,seval,wq,ag,encS]))
  all_goals try (simp[bC, *];done)
  all_goals try (simp[bC];omega)
  rename_i p y z A B
  have hle:g.rules.length<=40:=by omega
  have a:∀ b,jd g g.rules (-1)=b->gb b=gb (bC g):=λb e=>by
   simp[bC,h1,p,show 1<=g.rules.length by omega,hle,show 0<=g.start by omega,show g.start < g.ak.length by omega,e]
  refine aS.intro (λk T _=>∃ (i:Nat) (w:Int),i+k=g.rules.length/\-1<=w/\w < i/\jd g (g.rules.drop i) w=jd g g.rules (-1)/\T 1=.aH (ag g) 0/\T 3=gi w/\T 4=gi i) g.rules.length ?_ ?_
  .exact⟨0,-1,by omega,by omega,by omega,rfl,rfl,rfl,rfl⟩
  .rintro k T H' ⟨i,w,hk,q,s,hi,f1,f3,f4⟩
   simp(disch:=omega)only[↓wr,seval,wq,pB,f1,f3,f4,ag]
   apply ah.dec<;>intro u
   .have d:g.rules[i]?=some (g.rules[i]'(by omega)):=aar (by omega)
    rw[eZ (show i < g.rules.length by omega)] at hi
    have c:g.rules[i]'(by omega)∈g.rules:=aaC _
    generalize g.rules[i]'(by omega)=t at d hi c
    obtain⟨⟨v,x⟩,hp,j,l⟩:=h.ax t c
    simp only[jd] at hi
    simp(disch:=omega)only[↓wr,seval,wq,f1,f3,f4,ag,encS,aU,encI,aav,d,aaz]
    intro m hm
    try simp(disch:=omega)only[↓wr,seval,wq,f1,f3,f4]
    repeat' (first | ((first|apply ah.dec|apply ah.eq|apply ah.ne|apply ah.split)<;>intro)|(simp(disch:=omega)only[↓wr,seval,wq,f1,f3,f4,ag,encS,aU,encI]))
    all_goals try (refine a _ ?_;simp only[<-hi];simp;omega)
    rename_i C D
    refine ay.pure (Ri g t ⟨j,l⟩) ?_
    repeat' (first | ((first|apply ah.dec|apply ah.eq|apply ah.ne|apply ah.split)<;>intro)|(simp(disch:=omega)only[↓wr,seval,wq,f1,f3,f4,ag,encS,aU,encI]))
    all_goals simp only[show 0<=t.left by omega,show t.left<=w+1 by omega,decide_true,abE] at hi
    .rename_i f n
     rw[f,abE,aaw n] at hi
     exact⟨k - 1,by omega,i+1,_,by omega,by omega,by push_cast;omega,hi,by first | rfl | exact⟨rfl,rfl⟩ | exact⟨rfl,rfl,rfl⟩⟩
    .rename_i f n
     rw[f,abE,aat n] at hi
     exact⟨k - 1,by omega,i+1,_,by omega,by omega,by push_cast;omega,hi,by first | rfl | exact⟨rfl,rfl⟩ | exact⟨rfl,rfl,rfl⟩⟩
    .rename_i f
     rw[f,ab8] at hi
     exact a _ hi.symm
   .rw[aaV (by omega)] at hi
    simp only[jd] at hi
    simp(disch:=omega)only[↓wr,seval,wq,f1,f3,f4,ag,encS]
    exact a _ hi.symm
 .rename_i h1;simp[bC,h1]
theorem kT (g:ai) (a:g.Ok):az Tryz.prog 54 [.agg (ag g)] (gb (bC g)):=az.val (eK g) (Qd g a)
inductive cX (α:Type) where
 | nil
 | node (v:α) (l r:cX α)
noncomputable def cX.get {α:Type} (z:α) (t:cX α):Nat->α :=
 cX.rec (motive:=λ_=>Nat->α) (λ_=>z) (λv _ _ gl gr i=>Bool.rec (Bool.rec (gr (i / 2 - 1)) (gl (i / 2)) (Nat.beq (i % 2) 1)) v (Nat.beq i 0)) t
theorem cX.get_nil {α:Type} (z:α) (i:Nat):cX.get z .nil i=z:=rfl
theorem cX.Uu {α:Type} (z v:α) (l r:cX α) (i:Nat):cX.get z (.node v l r) i=match Nat.beq i 0 with
  | true=>v
  | false=>match Nat.beq (i % 2) 1 with
   | true=>cX.get z l (i / 2)
   | false=>cX.get z r (i / 2 - 1):=by
 change (Bool.rec (motive:=λ_=>α) _ _ _:α)=_
 cases Nat.beq i 0 with
 | true=>rfl
 | false=>cases Nat.beq (i % 2) 1 <;> rfl
def cX.val {α:Type} (z:α):cX α->α
 | .nil=>z
 | .node v _ _=>v
def cX.left {α:Type} : cX α->cX α
 | .nil=>.nil
 | .node _ l _=>l
def cX.right {α:Type} : cX α->cX α
 | .nil=>.nil
 | .node _ _ r=>r
noncomputable def cX.put {α:Type} (z:α) (x:α) (d:Nat):cX α->Nat->cX α :=
 Nat.rec (motive:=λ_=>cX α->Nat->cX α) (λt _=>t) (λ_ pd t i =>
  Bool.rec (Bool.rec (.node (t.val z) t.left (pd t.right (i / 2 - 1))) (.node (t.val z) (pd t.left (i / 2)) t.right) (Nat.beq (i % 2) 1)) (.node x t.left t.right) (Nat.beq i 0)) d
theorem cX.U4 {α:Type} (z x:α) (d:Nat) (t:cX α) (i:Nat):cX.put z x (d+1) t i=match Nat.beq i 0 with
  | true=>.node x t.left t.right
  | false=>match Nat.beq (i % 2) 1 with
   | true=>.node (t.val z) (cX.put z x d t.left (i / 2)) t.right
   | false=>.node (t.val z) t.left (cX.put z x d t.right (i / 2 - 1)):=by
 change (Bool.rec (motive:=λ_=>cX α) _ _ _:cX α)=_
 cases Nat.beq i 0 with
 | true=>rfl
 | false=>cases Nat.beq (i % 2) 1 <;> rfl
theorem cX.pE {α:Type} (z:α) (t:cX α) (j:Nat):t.get z j=if j=0 then t.val z else if j % 2=1 then t.left.get z (j / 2) else t.right.get z (j / 2 - 1):=by
 cases t with
 | nil=>simp[cX.get_nil,cX.val,cX.left,cX.right]
 | node v l r =>
  simp only[cX.Uu,cX.val,cX.left,cX.right]
  by_cases h:j=0
  .subst h;rfl
  .have:Nat.beq j 0=false:=by cases e:Nat.beq j 0 with | true=>exact absurd (acq e) h | false=>rfl
   rw[this,aat h]
   simp only
   by_cases a:j % 2=1
   .have:Nat.beq (j % 2) 1=true:=by rw[a];rfl
    rw[this,aaw a]
   .have:Nat.beq (j % 2) 1=false:=by cases e:Nat.beq (j % 2) 1 with | true=>exact absurd (acq e) a | false=>rfl
    rw[this,aat a]
theorem cX.px {α:Type} (z x:α):∀ (d:Nat) (t:cX α) (i j:Nat),i+1 < 2 ^ d->(cX.put z x d t i).get z j=if j=i then x else t.get z j
 | 0,t,i,j,h=>by simp at h
 | d+1,t,i,j,h=>by
  rw[Nat.pow_succ] at h
  simp only[cX.U4]
  by_cases hi:i=0
  .subst hi
   have:Nat.beq 0 0=true:=rfl
   rw[this]
   simp only
   rw[cX.pE,cX.pE z t]
   simp only[cX.val,cX.left,cX.right]
   by_cases b:j=0
   .rw[aaw b,aaw b]
   .rw[aat b,aat b,aat b]
  .have:Nat.beq i 0=false:=by cases e:Nat.beq i 0 with | true=>exact absurd (acq e) hi | false=>rfl
   rw[this]
   simp only
   by_cases c:i % 2=1
   .have:Nat.beq (i % 2) 1=true:=by rw[c];rfl
    rw[this]
    simp only
    rw[cX.pE,cX.pE z t]
    simp only[cX.val,cX.left,cX.right]
    by_cases b:j=0
    .subst b;rw[aaw rfl,aat (λe=>hi e.symm),aaw rfl]
    .rw[aat b,aat b]
     by_cases a:j % 2=1
     .rw[aaw a,aaw a,cX.px z x d _ _ _ (by omega)]
      by_cases e:j=i
      .subst e;simp
      .rw[aat e,aat (by omega)]
     .rw[aat a,aat a,aat (λe=>a (by rw[e];exact c))]
   .have:Nat.beq (i % 2) 1=false:=by cases e:Nat.beq (i % 2) 1 with | true=>exact absurd (acq e) c | false=>rfl
    rw[this]
    simp only
    rw[cX.pE,cX.pE z t]
    simp only[cX.val,cX.left,cX.right]
    by_cases b:j=0
    .subst b;rw[aaw rfl,aat (λe=>hi e.symm),aaw rfl]
    .rw[aat b,aat b]
     by_cases a:j % 2=1
     .rw[aaw a,aaw a,aat (λe=>c (by rw[<-e];exact a))]
     .rw[aat a,aat a,cX.px z x d _ _ _ (by omega)]
      by_cases e:j=i
      .subst e;simp
      .rw[aat e,aat (by omega)]
abbrev deep:Nat:=13
structure ES where
 L:cX V
 H:cX di
 n:Nat
 w:List Nat
noncomputable def ES.T (s:ES):Env:=s.L.get .any
noncomputable def ES.V (s:ES):View:=s.H.get .dead
noncomputable def ES.put (s:ES) (d:Option Nat) (v:Gv.V):ES:=match d with
 | some t=>⟨s.L.put .any v deep t,s.H,s.n,s.w⟩
 | none=>s
theorem ES.Wf {s:ES} {d:Option Nat} {v:Gv.V} (h:∀ t,d=some t->t < 8000):(s.put d v).T=s.T.put d v:=by
 cases d with
 | none=>rfl
 | some t =>
  funext k
  have:=h t rfl
  simp only[ES.put,ES.T,Env.put]
  rw[cX.px _ _ _ _ _ _ (by simp[deep];omega)]
noncomputable def Kk (v:V) (eff:bH) (rd:List Nat) (s:ES):Option (V × ES × Rec):=match eff with
 | .none=>some (v,s,⟨rd,[],false,s.n,s.n⟩)
 | .new o=>match Nat.ble s.n 8000 with
  | true=>some (v,⟨s.L,s.H.put .dead o deep s.n,s.n+1,s.w⟩,⟨rd,[],false,s.n,s.n+1⟩)
  | false=>none
 | .fQ id o=>match Nat.ble id 8000 with
  | true=>some (v,⟨s.L,s.H.put .dead o deep id,s.n,id :: s.w⟩,⟨rd,[id],false,s.n,s.n⟩)
  | false=>none
 | .eF id o=>match Nat.ble s.n 8000,Nat.ble id 8000 with
  | true,true=>some (v,⟨s.L,(s.H.put .dead .dead deep id).put .dead o deep s.n,s.n+1,id :: s.w⟩,⟨rd,[id],false,s.n,s.n+1⟩)
  | _,_=>none
noncomputable def ZK (x:SX) (_:Program) (T:Env) (_:View) (_:Nat):Out:=some (x.at T,.none,[])
noncomputable def YS (c a b:SX) (_:Program) (T:Env) (_:View) (_:Nat):Out:=match c.at T with
 | .val (.bool t)=>some (if t then a.at T else b.at T,.none,[])
 | _=>none
noncomputable def Y8 (sz:Option Nat) (a:SX) (_:Program) (T:Env) (H:View) (_:Nat):Out:=zB sz (a.at T) H
noncomputable def Yv (sz:Nat) (a x:SX) (_:Program) (T:Env) (H:View) (_:Nat):Out:=EY sz (a.at T) (x.at T) H
noncomputable def YR (off:Nat) (x:SX) (_:Program) (T:Env) (_:View) (_:Nat):Out:=CC off (x.at T)
noncomputable def Zv (sz:Nat) (x i:SX) (_:Program) (T:Env) (_:View) (_:Nat):Out:=G8 sz (x.at T) (i.at T)
noncomputable def ZI (x:SX) (_:Program) (T:Env) (_:View) (_:Nat):Out:=(cU (x.at T)).map λn=>(iW n,.none,[])
noncomputable def Ye (op:BinOp) (x y:SX) (_:Program) (T:Env) (_:View) (_:Nat):Out:=Bo op (x.at T) (y.at T)
noncomputable def ZM (op:BinOp) (x y:SX) (_:Program) (T:Env) (_:View) (_:Nat):Out:=DD op (x.at T) (y.at T)
noncomputable def Zm (x:SX) (_:Program) (T:Env) (_:View) (_:Nat):Out:=match x.at T with
 | .val (.bool t)=>some (.val (.bool (!t)),.none,[])
 | _=>none
noncomputable def Zp (i:Nat) (x:SX) (_:Program) (T:Env) (_:View) (_:Nat):Out:=match x.at T with
 | .bD vs=>if i < vs.length then some (vs.getD i .any,.none,[]) else none
 | _=>none
noncomputable def YZ (x:SX) (_:Program) (T:Env) (_:View) (_:Nat):Out:=match x.at T with
 | .ptr id i j=>some (.ptr id i j,.none,[])
 | .aH e j=>some (.aH e j,.none,[])
 | .fn f a b=>some (.fn f a b,.none,[])
 | _=>none
noncomputable def eI (s:SI):Program->Env->View->Nat->Out:=match s with
 | .eF x=>ZK x
 | .pick c a b=>YS c a b
 | .load sz a=>Y8 sz a
 | .store sz a x=>Yv sz a x
 | .addr o x=>YR o x
 | .idx sz x i=>Zv sz x i
 | .len x=>ZI x
 | .arith op x y=>Ye op x y
 | .AB op x y=>ZM op x y
 | .not x=>Zm x
 | .ext i x=>Zp i x
 | .DP x=>YZ x
 | s=>λP T H n=>sI P s T H n
theorem Qj (s:SI) (P:Program) (T:Env) (H:View) (n:Nat):eI s P T H n=sI P s T H n:=by
 cases s <;> rfl
abbrev jA:=FuncId->List V->ES->Option (V × ES)
noncomputable def Q8 (P:Program) (s:SI) (e:ES):Option (V × ES × Rec):=match eI s P e.T e.V e.n with
 | some (v,eff,rd)=>Kk v eff rd e
 | none=>none
noncomputable def RI (call:jA) (f:SX) (args:List SX) (e:ES):Option (V × ES × Rec):=match f.at e.T with
 | .fn g first cap=>match call g (first ++ args.map (SX.at e.T) ++ cap) e with
  | some (v,e')=>some (v,⟨e.L,e'.H,e'.n,e'.w ++ e.w⟩,⟨[],e'.w,true,e.n,e'.n⟩)
  | none=>none
 | _=>none
noncomputable def eB (P:Program) (call:jA) (b:SB):ES->Option (V × ES × Rec):=match b with
 | .op s=>Q8 P s
 | .call f args=>RI call f args
 | .yR ..=>λ_=>none
noncomputable def MU (P:Program) (call:jA):List (Option Nat × SB)->List Rec->ES->Option (ES × List Rec)
 | [],a,e=>some (e,a)
 | (d,b) :: r,a,e=>match eB P call b e with
  | some (v,e',c)=>MU P call r (a ++ [c]) (e'.put d v)
  | none=>none
noncomputable def Ws (e:ES):Rec:=⟨[],[],false,e.n,e.n⟩
noncomputable def zj:List (Option Nat × SB)->List Rec->ES->ES × List Rec
 | [],a,e=>(e,a)
 | (d,_) :: r,a,e=>zj r (a ++ [Ws e]) (e.put d (.bD []))
noncomputable def TC (P:Program) (call:jA) (ops:List (Option Nat × SB)) (want:Bool) (v:V) (a:List Rec) (e:ES):Option (ES × List Rec):=match v with
 | .val (.bool b)=>match xor b want with
  | true=>some (zj ops a e)
  | false=>MU P call ops a e
 | .bD []=>some (zj ops a e)
 | _=>none
noncomputable def eG (P:Program) (call:jA) (g:SG) (a:List Rec) (e:ES):Option (ES × List Rec):=match g.guard with
 | none=>MU P call g.ops a e
 | some (d,want)=>TC P call g.ops want (e.T d) a e
noncomputable def Tp (P:Program) (call:jA):List SG->List Rec->ES->Option (ES × List Rec)
 | [],a,e=>some (e,a)
 | g :: r,a,e=>match eG P call g a e with
  | some (e',a')=>Tp P call r a' e'
  | none=>none
inductive DC where
 | skip
 | region (ps:List (Nat × Nat)) (gs:List SG)
 | seq (x y:DC)
 | cond (c:SX) (x y:DC)
 | block (id:Nat) (c:DC)
 | loop (c:DC)
 | exit (id:Nat)
 | ret
 deriving Inhabited
def RP (recs:List Rec) (ps:List (Nat × Nat)):Bool:=ps.all λ(i,k)=>match recs[i]?,recs[k]? with
 | some a,some b=>Gx a b
 | _,_=>false
abbrev ER:=Option (Exit × ES)
abbrev AE:=DC->ES->ER
noncomputable def Qv:ES->ER:=λe=>some (.normal,e)
noncomputable def NV (P:Program) (call:jA) (ps:List (Nat × Nat)) (gs:List SG) (e:ES):ER:=match Tp P call gs [] e with
 | some (e',recs)=>match RP recs ps with
  | true=>some (.normal,e')
  | false=>none
 | none=>none
noncomputable def XR (run:AE) (x y:DC) (e:ES):ER:=match run x e with
 | some (.normal,e')=>run y e'
 | r=>r
noncomputable def WE (run:AE) (c:SX) (x y:DC) (e:ES):ER:=match c.at e.T with
 | .val (.bool true)=>run x e
 | .val (.bool false)=>run y e
 | _=>none
noncomputable def QR (run:AE) (id:Nat) (c:DC) (e:ES):ER:=match run c e with
 | some (r,e')=>some (sy id r,e')
 | none=>none
noncomputable def WA (run:AE) (c:DC) (e:ES):ER:=match run c e with
 | some (.normal,e')=>run (.loop c) e'
 | r=>r
noncomputable def oB (P:Program) (call:jA) (run:AE) (c:DC):ES->ER:=match c with
 | .skip=>Qv
 | .region ps gs=>NV P call ps gs
 | .seq x y=>XR run x y
 | .cond c x y=>WE run c x y
 | .block id c=>QR run id c
 | .loop c=>WA run c
 | .exit id=>λe=>some (.exit id,e)
 | .ret=>λe=>some (.ret,e)
noncomputable def Uy (r:SR) (e:ES):Option V:=match r with
 | .tmp t=>some (e.T t)
 | .cell t sz=>match e.T t with
  | .ptr id i j=>match e.V id with
   | .arr _ es=>if i < es.length then oA sz (es.getD i []) j else none
   | _=>none
  | .aH e j=>oA sz e j
  | _=>none
noncomputable def za:List SR->ES->Option (List V)
 | [],_=>some []
 | r :: l,e=>match Uy r e,za l e with
  | some v,some vs=>some (v :: vs)
  | _,_=>none
noncomputable def pL:List V->Nat->cX V->cX V
 | [],_,t=>t
 | v :: vs,i,t=>pL vs (i+1) (t.put .any v deep i)
structure DF where
 code:DC
 res:List SR
 n:Nat
noncomputable def Yb (l:List SR) (r:ER):Option (V × ES):=match r with
 | some (.ret,e)=>(za l e).map λvs=>(z8 vs,e)
 | some (.normal,e)=>(za l e).map λvs=>(z8 vs,e)
 | _=>none
noncomputable def YH (m:Nat) (r:Option (V × ES)):Option (V × ES):=match r with
 | some (v,e)=>some (v,⟨e.L,e.H,e.n,e.w.filter λid=>Nat.blt id m⟩)
 | none=>none
noncomputable def X9 (run:AE) (F:DF) (vs:List V) (e:ES):Option (V × ES):=match Nat.ble vs.length F.n,Nat.ble F.n 8000 with
 | true,true=>YH e.n (Yb F.res (run F.code ⟨pL vs 0 .nil,e.H,e.n,[]⟩))
 | _,_=>none
abbrev Co:=FuncId->List V->View->Option V
noncomputable def Jv (P:Program) (tab:List (FuncId × DF)) (ext:Co) (run:AE) (g:FuncId) (vs:List V) (e:ES):Option (V × ES):=match ext g vs e.V with
 | some t=>some (t,⟨e.L,e.H,e.n,[]⟩)
 | none=>match tab.find? (λp=>Nat.beq p.1 g) with
  | some (_,F)=>X9 run F vs e
  | none=>none
noncomputable def JC (P:Program) (tab:List (FuncId × DF)) (ext:Co):Nat->AE
 | 0=>λ_ _=>none
 | k+1=>oB P (Jv P tab ext (JC P tab ext k)) (JC P tab ext k)
def EK (all:List Oper) (ls:List Nat):List (Nat × Nat) :=
 let b:=gJ all []
 (ls.zipIdx.map λ(x,i)=>(ls.zipIdx.filter λ(y,k)=>decide (i < k) && !(ordered b i k || x == 0 || y == 0 || (decide (x<=1) && decide (y<=1)))).map λ(_,k)=>(i,k)).flatten
def Kj (P:Program) (n:Nat) (fz:List Nat) (ops:List Oper) (draw:Bool):Option DC:=match dY P n ops ⟨fz,false⟩ ops with
 | none=>none
 | some l=>if !(group l).all vX then none else
  if draw then (if od ops then some (.region (EK ops (l.map λs=>jZ P false s.b)) (group l)) else none) else some (.region [] (group l))
def kq (P:Program) (n:Nat) (fz:List Nat):Code->Option DC
 | .skip=>some .skip
 | .region _ ops draw=>Kj P n fz ops.toList draw
 | .seq x y=>match kq P n fz x,kq P n fz y with
  | some a,some b=>some (.seq a b)
  | _,_=>none
 | .cond c x y=>match kq P n fz x,kq P n fz y with
  | some a,some b=>some (.cond (SX.of c) a b)
  | _,_=>none
 | .block id c=>(kq P n fz c).map (.block id)
 | .loop c=>(kq P n fz c).map .loop
 | .exit id=>some (.exit id)
 | .ret=>some .ret
 | _=>none
abbrev c_s (l:List (Option Nat × SB)):DC:=.region [] [⟨none,l⟩]
def KO (P:Program) (f:FuncId) (fz:List Nat):Option DF:=match P.funcs[f]? with
 | some fn=>match fn.body with
  | some c=>match kq P fn.ntmps fz c,gN P fn.results.toList,dW P f with
   | some sc,some rs,true=>some ⟨sc,rs,fn.ntmps⟩
   | _,_,_=>none
  | none=>none
 | none=>none
end Gv

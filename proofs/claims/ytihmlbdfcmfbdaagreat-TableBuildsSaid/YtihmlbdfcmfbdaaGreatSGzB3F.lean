/-
  Part 6 of the proof: what the machine does and what the functions answer.
  Conditions: those that each lemma names.
-/
import Derived.Test.YtihmlbdfcmfbdaaGreatSGzB3E
set_option linter.unusedSimpArgs false
set_option linter.unusedVariables false
set_option maxRecDepth 100000
set_option maxHeartbeats 20000000
namespace Gv
open Go Go.Proofs
structure Term where
 name:ByteArray
 level:Int
 assoc:Int
structure bu where
 left:Int
 right:List Int
 prec:Int
structure aj where
 af:List Term
 ak:List ByteArray
 rules:List bu
 start:Int
instance:Inhabited Term:=⟨⟨.empty,0,0⟩⟩
instance:Inhabited bu:=⟨⟨0,[],0⟩⟩
def bS (t:Term):List V:=[gs t.name,gi t.level,gi t.assoc]
def aO (r:bu):List V:=[gi r.left,encI r.right,gi r.prec]
def encS (l:List ByteArray):V:=.aD (l.map λs=>[gs s])
def ag (g:aj):List V:=[.aD (g.af.map bS),encS g.ak,.aD (g.rules.map aO),gi g.start]
theorem dZ {α:Type} (l:List α) (f:α->List V) (h:∀ x∈l,∀ v∈f x,Tree v):Tree (.aD (l.map f)):=by
 refine .aD _ λi j hi a=>?_
 simp only[Zr] at hi
 have e:(l.map f).getD i []=f l[i]:=by simp[Zi,hi]
 rw[e] at a ⊢
 have b:(f l[i]).getD j .any=(f l[i])[j]:=by simp[Zi,a]
 rw[b]
 exact h _ (Zs _) _ (Zs _)
theorem cb (cs:List V) (h:∀ v∈cs,Tree v):Tree (.agg cs):=by
 refine .agg _ λi hi=>?_
 have a:cs.getD i .any=cs[i]:=by simp[Zi,hi]
 rw[a];exact h _ (Zs _)
theorem BT (l:List ByteArray):Tree (encS l):=dZ _ _ λx _ v a=>by simp at a;subst a;exact .val _
theorem vV (t:Term):∀ v∈bS t,Tree v:=by intro v a;simp[bS] at a;rcases a with rfl | rfl | rfl <;> exact .val _
theorem iz (r:bu):∀ v∈aO r,Tree v:=by
 intro v a;simp[aO] at a;rcases a with rfl | rfl | rfl
 .exact .val _
 .exact ew _
 .exact .val _
theorem cY (g:aj):∀ v∈ag g,Tree v:=by
 intro v a;simp[ag] at a;rcases a with rfl | rfl | rfl | rfl
 .exact dZ _ _ λx _=>vV x
 .exact BT _
 .exact dZ _ _ λx _=>iz x
 .exact .val _
def cp (x:Int):Prop:=-9223372036854775808<=x/\x<=9223372036854775807
structure aj.Ok (g:aj):Prop where
 af:aJ g.af
 ak:aJ g.ak
 rules:aJ g.rules
 start:cp g.start
 term:∀ t∈g.af,cp t.level/\cp t.assoc
 aw:∀ r∈g.rules,cp r.left/\cp r.prec/\aJ r.right/\∀ x∈r.right,cp x
def fT (g:aj) (s:Int):Bool:=if 0<=s then decide (s < g.af.length) else decide (-1 - s < g.ak.length)
def tz:SF:=⟨ae [ab [cw 2 0,bz 4 false],ae [ab [aa 5 1,aG 6 .geq 5 0],bc 6 (ae [ab [aa 7 1,ao 8 0 2,ai 9 8,aP 10 9,aS 11 .lss 7 10,aa 4 11],.ret])],ab [aa 12 1,((some 13),.op (.arith .sub (.val (.val (.int .i64 (-1)))) (.tmp 12))),ao 14 1 2,ai 15 14,aP 16 15,aS 17 .lss 13 16,aa 4 17],.ret],
 [.tmp 4],18⟩
theorem zu:aN Tryz.prog 155 [2]=some tz:=by kernel_rfl
theorem Xe (g:aj) (s:Int) (hs:cp s) (H:View):au Tryz.prog 155 [.agg (ag g),gi s] H λr H'=>r=gb (fT g s)/\H'=H:=by
 refine au.of mixed zu ?_
 obtain⟨h1,a⟩:=hs
 simp(disch:=omega)only[↓wr,seval,wq,tz,ag,encS]
 apply ah.dec<;>intro h
 .simp(disch:=omega)only[↓wr,seval,wq]
  simp[fT,show (0:Int)<=s from h]
 .simp(disch:=omega)only[↓wr,seval,wq]
  simp[fT,show ¬ (0:Int)<=s from h]
theorem Qt (g:aj) (s:Int) (hs:cp s):az Tryz.prog 155 [.agg (ag g),gi s] (gb (fT g s)) :=
 az.of (by
  intro v a;simp at a
  rcases a with rfl | rfl
  .exact cb _ (cY g)
  .exact .val _) ((Xe g s hs _).mono λr H' h b _=>by rw[h.1];exact .tree _ (.val _))
def mq (g:aj):Bool:=decide (40 < g.af.length) || decide (40 < g.ak.length) || decide (60 < g.rules.length) || g.rules.any λr=>decide (20 < r.right.length)
def pa:SC :=
 ae [ae [ab [aa 20 3,ao 21 2 1,ai 22 21,aP 23 22,aS 24 .lss 20 23],bT 24 (.exit 0)],.block 1 (ae [ab [ao 27 2 1,ai 28 27,aa 29 3,aH 30 3 28 29,ao 31 1 30,ai 32 31,aP 33 32,aG 34 .gtr 33 20],bc 34 (ae [ab [bz 2 true],.ret])]),ab [aa 25 3,aG 26 .add 25 1,aa 3 26]]
def qQ:SF:=⟨ae [ab [cw 1 0,bz 2 false],ae [.region false [⟨none,[ao 4 0 1,ai 5 4,aP 6 5,aG 7 .gtr 6 40,aa 8 7]⟩,⟨(some (8,false)),[ao 9 1 1,ai 10 9,aP 11 10,aG 12 .gtr 11 40]⟩,⟨none,[cD 13 8 12,aa 14 13]⟩,⟨(some (14,false)),[ao 15 2 1,ai 16 15,aP 17 16,aG 18 .gtr 17 60]⟩,⟨none,[cD 19 14 18]⟩],bc 19 (ae [ab [bz 2 true],.ret])],ae [ab [aQ 3 0],bU 0 pa],ab [bz 2 false],.ret],
 [.tmp 2],35⟩
theorem xi:aN Tryz.prog 16 [1]=some qQ:=by kernel_rfl
theorem U7 (g:aj) (H:View):au Tryz.prog 16 [.agg (ag g)] H λr H'=>r=gb (mq g)/\H'=H:=by
 refine au.of mixed xi ?_
 simp(disch:=omega)only[↓wr,seval,wq,qQ,ag,encS]
 apply ah.dec<;>intro h1
 .simp(disch:=omega)only[↓wr,seval,wq]
  simp[mq,show 40 < g.af.length by omega]
 .simp(disch:=omega)only[↓wr,seval,wq]
  apply ah.dec<;>intro d
  .simp(disch:=omega)only[↓wr,seval,wq]
   simp[mq,show 40 < g.ak.length by omega]
  .simp(disch:=omega)only[↓wr,seval,wq]
   apply ah.dec<;>intro f
   .simp(disch:=omega)only[↓wr,seval,wq]
    simp[mq,show 60 < g.rules.length by omega]
   .simp(disch:=omega)only[↓wr,seval,wq]
    refine aR.intro (λk T H'=>∃ i:Nat,i+k=g.rules.length/\(∀ r∈g.rules.take i,¬ 20 < r.right.length)/\T 1=.aI (ag g) 0/\T 3=gi i/\H'=H) g.rules.length ?_ ?_
    .exact⟨0,by omega,by simp,rfl,rfl,rfl⟩
    .rintro k T H' ⟨i,hk,hi,a,b,rfl⟩
     simp(disch:=omega)only[↓wr,seval,wq,pa,a,b,ag]
     apply ah.dec<;>intro h
     .have c:g.rules[i]?=some (g.rules[i]'(by omega)):=Zj (by omega)
      simp(disch:=omega)only[↓wr,seval,wq,a,b,ag,aO,encI,Zm,c,Zq]
      apply ah.dec<;>intro hd
      .simp(disch:=omega)only[↓wr,seval,wq]
       have:g.rules.any (λr=>decide (20 < r.right.length))=true:=by
        simp only[List.any_eq_true,ZA]
        exact⟨g.rules[i]'(by omega),Zs _,by omega⟩
       simp[mq,this]
      .simp(disch:=omega)only[↓wr,seval,wq,a,b]
       refine⟨k - 1,by omega,i+1,by omega,?_,rfl,rfl⟩
       intro r hr
       rw[ZG,c] at hr
       simp only[Option.toList_some,ZN,aaj] at hr
       rcases hr with hr | rfl
       .exact hi r hr
       .omega
     .simp(disch:=omega)only[↓wr,seval,wq,a,b]
      have e:i=g.rules.length:=by omega
      rw[Zx (by omega)] at hi
      have:g.rules.any (λr=>decide (20 < r.right.length))=false:=by
       simp only[List.any_eq_false,ZA];exact hi
      simp only[mq,this]
      simp;omega
def c7 (l:List Int) (is:List Bool) (af:Bool):Bool:=l.all λs=>if 0<=s then af else is.getD (-1 - s).toNat false
def qE:SC :=
 ae [ae [ab [aa 8 7,aa 9 0,aP 10 9,aS 11 .lss 8 10],bT 11 (.exit 0)],.block 1 (ae [.region false [⟨none,[aa 14 0,aa 15 7,aH 16 1 14 15,ai 17 16,aG 18 .geq 17 0,aa 19 18]⟩,⟨(some (19,true)),[aa 20 2,c6 21 20]⟩,⟨none,[eF 22 19 21,aa 23 22]⟩,⟨(some (23,false)),[aa 24 0,aa 25 7,aH 26 1 24 25,ai 27 26,aG 28 .lss 27 0,aa 29 28]⟩,⟨(some (29,true)),[aa 30 1,aa 31 0,aa 32 7,aH 33 1 31 32,ai 34 33,((some 35),.op (.arith .sub (.val (.val (.int .i64 (-1)))) (.tmp 34))),aH 36 1 30 35,ai 37 36,c6 38 37]⟩,⟨(some (23,false)),[eF 39 29 38]⟩,⟨none,[cD 40 23 39]⟩],bc 40 (ae [ab [bz 6 false],.ret])]),ab [aa 12 7,aG 13 .add 12 1,aa 7 13]]
def tx:SF:=⟨ae [ab [bz 6 false],ae [ab [aQ 7 0],bU 0 qE],ab [bz 6 true],.ret],
 [.tmp 6],41⟩
theorem yB:aN Tryz.prog 117 []=some tx:=by kernel_rfl
theorem W4 (l:List Int) (is:List Bool) (t:Bool) (hl:aJ l) (hs:∀ s∈l,cp s/\(s < 0->-1 - s < is.length)) (H:View) :
  au Tryz.prog 117 [encI l,bP is,gb t] H λr H'=>r=gb (c7 l is t)/\H'=H:=by
 refine au.of mixed yB ?_
 unfold aJ at hl
 simp(disch:=omega)only[↓wr,seval,wq,tx]
 refine aR.intro (λk T H'=>∃ i:Nat,i+k=l.length/\c7 (l.take i) is t=true/\T 0=encI l/\T 1=bP is/\T 2=gb t/\T 7=gi i/\H'=H) l.length ?_ ?_
 .exact⟨0,by omega,by simp[c7],rfl,rfl,rfl,rfl,rfl⟩
 .rintro k T H' ⟨i,hk,hi,d,h1,f,g,rfl⟩
  simp(disch:=omega)only[↓wr,seval,wq,qE,d,h1,f,g,encI]
  apply ah.dec<;>intro o
  .have h:l[i]?=some (l[i]'(by omega)):=Zj (by omega)
   have hm:l[i]'(by omega)∈l:=Zs _
   generalize l[i]'(by omega)=s at h hm
   obtain⟨⟨p,q⟩,u⟩:=hs s hm
   have a:c7 (l.take (i+1)) is t=(if 0<=s then t else is.getD (-1 - s).toNat false):=by
    rw[ZG,h]
    simp only[c7,Option.toList_some,List.all_append,aaG,List.all_nil,Bool.and_true] at hi ⊢
    rw[hi,aaH]
   have c:(if 0<=s then t else is.getD (-1 - s).toNat false)=false->c7 l is t=false:=by
    intro j
    simp only[c7,List.all_eq_false]
    exact⟨s,hm,by simpa using j⟩
   simp(disch:=omega)only[↓wr,seval,wq,d,h1,f,g,encI,Zm,h,Zq]
   apply ah.dec<;>intro hd
   .rw[Zn (show 0<=s from hd)] at a c
    cases t with
    | true =>
     simp(disch:=omega)only[↓wr,seval,wq,d,h1,f,g,encI,Zm,h,Zq]
     refine ah.dec (λm=>absurd m (by omega)) (λ_=>?_)
     simp(disch:=omega)only[↓wr,seval,wq,d,h1,f,g,encI,bP,Zm,h,Zq]
     exact⟨k - 1,by omega,i+1,by omega,a,rfl⟩
    | false =>
     simp(disch:=omega)only[↓wr,seval,wq,d,h1,f,g,encI,Zm,h,Zq]
     rw[c rfl]
   .rw[Zk (show ¬ 0<=s from hd)] at a c
    simp(disch:=omega)only[↓wr,seval,wq,d,h1,f,g,encI,Zm,h,Zq]
    refine ah.dec (λm=>?_) (λm=>absurd m (by omega))
    have j:is[(-1 - s).toNat]?=some (is[(-1 - s).toNat]'(by omega)):=Zj (by omega)
    have n:is.getD (-1 - s).toNat false=is[(-1 - s).toNat]'(by omega):=by simp[Zi,j]
    rw[n] at a c
    generalize is[(-1 - s).toNat]'(by omega)=b at j a c
    simp(disch:=omega)only[↓wr,seval,wq,d,h1,f,g,encI,bP,Zm,h,j,Zq]
    cases b with
    | true =>
     simp(disch:=omega)only[↓wr,seval,wq,d,h1,f,g,encI,bP,Zm,h,j,Zq]
     exact⟨k - 1,by omega,i+1,by omega,a,rfl⟩
    | false =>
     simp(disch:=omega)only[↓wr,seval,wq,d,h1,f,g,encI,bP,Zm,h,j,Zq]
     rw[c rfl]
  .simp(disch:=omega)only[↓wr,seval,wq,d,h1,f,g]
   have e:i=l.length:=by omega
   rw[Zx (by omega)] at hi
   rw[hi]
abbrev gy (x:Int):V:=.val (.int .u8 x)
def xS (c:Int):Bool:=(decide (97<=c) && decide (c<=122)) || (decide (65<=c) && decide (c<=90)) || c == 95
def pQ (c:Int):Bool:=xS c || (decide (48<=c) && decide (c<=57)) || c == 46
def qN:SF:=⟨ae [ab [bz 2 false],.region false [⟨none,[aa 3 0,((some 4),.op (.arith .geq (.tmp 3) (.val (.val (.int .u8 97))))),aa 5 4]⟩,⟨(some (5,true)),[aa 6 0,((some 7),.op (.arith .leq (.tmp 6) (.val (.val (.int .u8 122)))))]⟩,⟨none,[eF 8 5 7,aa 9 8]⟩,⟨(some (9,false)),[aa 10 0,((some 11),.op (.arith .geq (.tmp 10) (.val (.val (.int .u8 65))))),aa 12 11]⟩,⟨(some (12,true)),[aa 13 0,((some 14),.op (.arith .leq (.tmp 13) (.val (.val (.int .u8 90)))))]⟩,⟨(some (9,false)),[eF 15 12 14]⟩,⟨none,[cD 16 9 15,aa 17 16]⟩,⟨(some (17,false)),[aa 18 0,((some 19),.op (.arith .eql (.tmp 18) (.val (.val (.int .u8 95)))))]⟩,⟨none,[cD 20 17 19,aa 2 20]⟩],.ret],
 [.tmp 2],21⟩
theorem xf:aN Tryz.prog 193 []=some qN:=by kernel_rfl
def rf:SF:=⟨ae [ab [bz 2 false],.region false [⟨none,[aa 3 0,bh 4 193 [3],aa 5 4]⟩,⟨(some (5,false)),[aa 6 0,((some 7),.op (.arith .geq (.tmp 6) (.val (.val (.int .u8 48))))),aa 8 7]⟩,⟨(some (8,true)),[aa 9 0,((some 10),.op (.arith .leq (.tmp 9) (.val (.val (.int .u8 57)))))]⟩,⟨(some (5,false)),[eF 11 8 10]⟩,⟨none,[cD 12 5 11,aa 13 12]⟩,⟨(some (13,false)),[aa 14 0,((some 15),.op (.arith .eql (.tmp 14) (.val (.val (.int .u8 46)))))]⟩,⟨none,[cD 16 13 15,aa 2 16]⟩],.ret],
 [.tmp 2],17⟩
theorem xe:aN Tryz.prog 194 []=some rf:=by kernel_rfl
theorem UA (c:Int) (H:View):au Tryz.prog 193 [gy c] H λr H'=>r=gb (xS c)/\H'=H:=by
 refine au.of mixed xf ?_
 repeat' (first | ((first|apply ah.dec|apply ah.eq|apply ah.ne|apply ah.split)<;>intro)|(simp(disch:=omega)only[↓wr,seval,wq,qN]))
 all_goals (congr 2;simp only[xS];grind)
theorem Ks (c:Int):az Tryz.prog 193 [gy c] (gb (xS c)) :=
 az.of (by intro v a;simp at a;subst a;exact .val _) ((UA c _).mono λr H' h b _=>by rw[h.1];exact .tree _ (.val _))
theorem U6 (c:Int) (H:View):au Tryz.prog 194 [gy c] H λr H'=>r=gb (pQ c)/\H'=H:=by
 refine au.of mixed xe ?_
 repeat' (first | ((first|apply ah.dec|apply ah.eq|apply ah.ne|apply ah.split)<;>intro)|(simp(disch:=omega)only[↓wr,seval,wq,rf]))
 refine ax.pure (Ks c) ?_
 repeat' (first | ((first|apply ah.dec|apply ah.eq|apply ah.ne|apply ah.split)<;>intro)|(simp(disch:=omega)only[↓wr,seval,wq]))
 all_goals (congr 2;simp only[pQ];grind)
theorem TO (c:Int):az Tryz.prog 194 [gy c] (gb (pQ c)) :=
 az.of (by intro v a;simp at a;subst a;exact .val _) ((U6 c _).mono λr H' h b _=>by rw[h.1];exact .tree _ (.val _))
def iq (l:List Int):Bool:=decide (0 < l.length) && decide (l.length<=20) && (match l with | c :: _=>xS c | []=>false) && l.all pQ
def pL:SC :=
 ae [ae [ab [aa 18 3,aa 19 0,((some 20),.op (.rD (.tmp 19))),aS 21 .lss 18 20],bT 21 (.exit 0)],.block 1 (ae [ab [aa 24 0,aa 25 3,((some 26),.op (.jk (.tmp 24) (.tmp 25))),bh 27 194 [26],c6 28 27],bc 28 (ae [ab [bz 2 false],.ret])]),ab [aa 22 3,aG 23 .add 22 1,aa 3 23]]
def sG:SF:=⟨ae [ab [bz 2 false],ae [.region false [⟨none,[aa 4 0,((some 5),.op (.rD (.tmp 4))),aG 6 .eql 5 0,aa 7 6]⟩,⟨(some (7,false)),[aa 8 0,((some 9),.op (.rD (.tmp 8))),aG 10 .gtr 9 20]⟩,⟨none,[cD 11 7 10,aa 12 11]⟩,⟨(some (12,false)),[aa 13 0,((some 14),.op (.jk (.tmp 13) (.val (.val (.int .i64 0))))),bh 15 193 [14],c6 16 15]⟩,⟨none,[cD 17 12 16]⟩],bc 17 (ae [ab [bz 2 false],.ret])],ae [ab [aQ 3 0],bU 0 pL],ab [bz 2 true],.ret],
 [.tmp 2],29⟩
theorem xo:aN Tryz.prog 154 []=some sG:=by kernel_rfl
theorem RB (s:ByteArray) (H:View):au Tryz.prog 154 [gs s] H λr H'=>r=gb (iq (gx s))/\H'=H:=by
 refine au.of mixed xo ?_
 repeat' (first | ((first|apply ah.dec|apply ah.eq|apply ah.ne|apply ah.split)<;>intro)|(simp(disch:=omega)only[↓wr,seval,wq,sG,fC]))
 .rename_i h
  congr 2;simp[iq,show (gx s).length=0 by omega]
 .rename_i h
  congr 2;simp[iq,show ¬ (gx s).length<=20 by omega]
 .rename_i h1 g
  cases a:gx s with
  | nil=>simp[a] at h1
  | cons c l =>
   repeat' (first | ((first|apply ah.dec|apply ah.eq|apply ah.ne|apply ah.split)<;>intro)|(simp(disch:=omega)only[↓wr,seval,wq,a,ZL,fC]))
   refine ax.pure (Ks c) ?_
   repeat' (first | ((first|apply ah.dec|apply ah.eq|apply ah.ne|apply ah.split)<;>intro)|(simp(disch:=omega)only[↓wr,seval,wq,a,ZL,fC]))
   .rename_i j
    refine aR.intro (λk T H'=>∃ i:Nat,i+k=(c :: l).length/\((c :: l).take i).all pQ=true/\T 0=gs s/\T 3=gi i/\H'=H) (c :: l).length ?_ ?_
    .exact⟨0,by omega,by simp,rfl,rfl,rfl⟩
    .rintro k T H' ⟨i,hk,hi,b,e,rfl⟩
     rw[a] at h1 g
     simp(disch:=omega)only[↓wr,seval,wq,pL,b,e,fC,a]
     apply ah.dec<;>intro m
     .simp only[ZB] at m hk g
      have f:(c :: l)[i]?=some ((c :: l)[i]'(by simp;omega)):=Zj (by simp;omega)
      have hm:(c :: l)[i]'(by simp;omega)∈c :: l:=Zs _
      generalize (c :: l)[i]'(by simp;omega)=d at f hm
      simp(disch:=omega)only[↓wr,seval,wq,b,e,fC,a,f]
      refine ax.pure (TO d) ?_
      repeat' (first | ((first|apply ah.dec|apply ah.eq|apply ah.ne|apply ah.split)<;>intro)|(simp(disch:=omega)only[↓wr,seval,wq,b,e,fC,a,f]))
      .rename_i hd
       refine⟨k - 1,by omega,i+1,by omega,?_,rfl⟩
       rw[ZG,f]
       simp only[Option.toList_some,List.all_append,hi,aaG,hd,List.all_nil,Bool.and_self]
      .rename_i hd
       congr 2
       have:(c :: l).all pQ=false:=by
        rw[List.all_eq_false];exact⟨d,hm,by simp[hd]⟩
       simp only[iq,this,Bool.and_false]
     .simp(disch:=omega)only[↓wr,seval,wq,b,e]
      simp only[ZB] at m hk g
      rw[Zx (by simp;omega)] at hi
      congr 2
      simp only[iq,hi,ZB]
      simp[j];omega
   .rename_i j
    congr 2;simp[iq,j]
def oq:List Int->Bool
 | [a,b,c]=>a == 39 && c == 39 && decide (32<=b) && decide (b<=126) && b != 39 && b != 92
 | [a,b,c,d]=>a == 39 && d == 39 && b == 92 && (c == 110 || c == 116 || c == 92 || c == 39)
 | _=>false
theorem U0 {l:List Int} (a:l.length≠3) (b:l.length≠4):oq l=false:=by
 match l,a,b with
 | [],_,_=>rfl
 | [_],_,_=>rfl
 | [_,_],_,_=>rfl
 | [_,_,_],a,_=>exact absurd rfl a
 | [_,_,_,_],_,b=>exact absurd rfl b
 | _ :: _ :: _ :: _ :: _ :: _,_,_=>rfl
theorem Yj {α:Type} {l:List α} (h:l.length=3):∃ a b c,l=[a,b,c]:=by
 match l,h with
 | [a,b,c],_=>exact⟨a,b,c,rfl⟩
theorem YD {α:Type} {l:List α} (h:l.length=4):∃ a b c d,l=[a,b,c,d]:=by
 match l,h with
 | [a,b,c,d],_=>exact⟨a,b,c,d,rfl⟩
def oQ:SF:=⟨ae [ab [bz 2 false],ae [ab [aa 3 0,((some 4),.op (.rD (.tmp 3))),aG 5 .eql 4 3],bc 5 (ae [.region false [⟨none,[aa 6 0,((some 7),.op (.jk (.tmp 6) (.val (.val (.int .i64 0))))),((some 8),.op (.arith .eql (.tmp 7) (.val (.val (.int .u8 39))))),aa 9 8]⟩,⟨(some (9,true)),[aa 10 0,((some 11),.op (.jk (.tmp 10) (.val (.val (.int .i64 2))))),((some 12),.op (.arith .eql (.tmp 11) (.val (.val (.int .u8 39)))))]⟩,⟨none,[eF 13 9 12,aa 14 13]⟩,⟨(some (14,true)),[aa 15 0,((some 16),.op (.jk (.tmp 15) (.val (.val (.int .i64 1))))),((some 17),.op (.arith .geq (.tmp 16) (.val (.val (.int .u8 32)))))]⟩,⟨none,[eF 18 14 17,aa 19 18]⟩,⟨(some (19,true)),[aa 20 0,((some 21),.op (.jk (.tmp 20) (.val (.val (.int .i64 1))))),((some 22),.op (.arith .leq (.tmp 21) (.val (.val (.int .u8 126)))))]⟩,⟨none,[eF 23 19 22,aa 24 23]⟩,⟨(some (24,true)),[aa 25 0,((some 26),.op (.jk (.tmp 25) (.val (.val (.int .i64 1))))),((some 27),.op (.arith .neq (.tmp 26) (.val (.val (.int .u8 39)))))]⟩,⟨none,[eF 28 24 27,aa 29 28]⟩,⟨(some (29,true)),[aa 30 0,((some 31),.op (.jk (.tmp 30) (.val (.val (.int .i64 1))))),((some 32),.op (.arith .neq (.tmp 31) (.val (.val (.int .u8 92)))))]⟩,⟨none,[eF 33 29 32,aa 2 33]⟩],.ret])],.region false [⟨none,[aa 34 0,((some 35),.op (.rD (.tmp 34))),aG 36 .eql 35 4,aa 37 36]⟩,⟨(some (37,true)),[aa 38 0,((some 39),.op (.jk (.tmp 38) (.val (.val (.int .i64 0))))),((some 40),.op (.arith .eql (.tmp 39) (.val (.val (.int .u8 39)))))]⟩,⟨none,[eF 41 37 40,aa 42 41]⟩,⟨(some (42,true)),[aa 43 0,((some 44),.op (.jk (.tmp 43) (.val (.val (.int .i64 3))))),((some 45),.op (.arith .eql (.tmp 44) (.val (.val (.int .u8 39)))))]⟩,⟨none,[eF 46 42 45,aa 47 46]⟩,⟨(some (47,true)),[aa 48 0,((some 49),.op (.jk (.tmp 48) (.val (.val (.int .i64 1))))),((some 50),.op (.arith .eql (.tmp 49) (.val (.val (.int .u8 92)))))]⟩,⟨none,[eF 51 47 50,aa 52 51]⟩,⟨(some (52,true)),[aa 53 0,((some 54),.op (.jk (.tmp 53) (.val (.val (.int .i64 2))))),((some 55),.op (.arith .eql (.tmp 54) (.val (.val (.int .u8 110))))),aa 56 55]⟩,⟨(some (56,false)),[aa 57 0,((some 58),.op (.jk (.tmp 57) (.val (.val (.int .i64 2))))),((some 59),.op (.arith .eql (.tmp 58) (.val (.val (.int .u8 116)))))]⟩,⟨(some (52,true)),[cD 60 56 59,aa 61 60]⟩,⟨(some (61,false)),[aa 62 0,((some 63),.op (.jk (.tmp 62) (.val (.val (.int .i64 2))))),((some 64),.op (.arith .eql (.tmp 63) (.val (.val (.int .u8 92)))))]⟩,⟨(some (52,true)),[cD 65 61 64,aa 66 65]⟩,⟨(some (66,false)),[aa 67 0,((some 68),.op (.jk (.tmp 67) (.val (.val (.int .i64 2))))),((some 69),.op (.arith .eql (.tmp 68) (.val (.val (.int .u8 39)))))]⟩,⟨(some (52,true)),[cD 70 66 69]⟩,⟨none,[eF 71 52 70,aa 2 71]⟩],.ret],
 [.tmp 2],72⟩
theorem uR:aN Tryz.prog 192 []=some oQ:=by kernel_rfl
def qW:SF:=⟨ae [ab [bz 2 false],.region false [⟨none,[aa 3 0,bh 4 154 [3],aa 5 4]⟩,⟨(some (5,false)),[aa 6 0,bh 7 192 [6]]⟩,⟨none,[cD 8 5 7,aa 2 8]⟩],.ret],
 [.tmp 2],9⟩
theorem wN:aN Tryz.prog 151 []=some qW:=by kernel_rfl
theorem Ul (s:ByteArray) (H:View):au Tryz.prog 192 [gs s] H λr H'=>r=gb (oq (gx s))/\H'=H:=by
 refine au.of mixed uR ?_
 simp(disch:=omega)only[↓wr,seval,wq,oQ,fC]
 apply ah.eq<;>intro h
 .obtain⟨a,b,c,e⟩:=Yj (l:=gx s) (by omega)
  repeat' (first | ((first|apply ah.dec|apply ah.eq|apply ah.ne|apply ah.split)<;>intro)|(simp(disch:=omega)only[↓wr,seval,wq,e,ZL,aae]))
  all_goals (congr 2;simp only[oq];grind)
 .simp(disch:=omega)only[↓wr,seval,wq,fC]
  apply ah.eq<;>intro f
  .obtain⟨a,b,c,d,e⟩:=YD (l:=gx s) (by omega)
   repeat' (first | ((first|apply ah.dec|apply ah.eq|apply ah.ne|apply ah.split)<;>intro)|(simp(disch:=omega)only[↓wr,seval,wq,e,ZL,aae]))
   all_goals (congr 2;simp only[oq];grind)
  .repeat' (first | ((first|apply ah.dec|apply ah.eq|apply ah.ne|apply ah.split)<;>intro)|(simp(disch:=omega)only[↓wr,seval,wq,fC]))
   rw[U0 (by omega) (by omega)]
theorem rH (s:ByteArray):∀ v∈[gs s],Tree v:=by intro v a;simp at a;subst a;exact .val _
theorem HI (s:ByteArray):az Tryz.prog 154 [gs s] (gb (iq (gx s))) :=
 az.of (rH s) ((RB s _).mono λr H' h a _=>by rw[h.1];exact .tree _ (.val _))
theorem Uc (s:ByteArray):az Tryz.prog 192 [gs s] (gb (oq (gx s))) :=
 az.of (rH s) ((Ul s _).mono λr H' h a _=>by rw[h.1];exact .tree _ (.val _))
def sK (l:List Int):Bool:=iq l || oq l
theorem PB (s:ByteArray) (H:View):au Tryz.prog 151 [gs s] H λr H'=>r=gb (sK (gx s))/\H'=H:=by
 refine au.of mixed wN ?_
 simp(disch:=omega)only[↓wr,seval,wq,qW]
 refine ax.pure (HI s) ?_
 repeat' (first | ((first|apply ah.dec|apply ah.eq|apply ah.ne|apply ah.split)<;>intro)|(simp(disch:=omega)only[↓wr,seval,wq]))
 .rename_i h;simp[sK,h]
 .rename_i h
  refine ax.pure (Uc s) ?_
  repeat' (first | ((first|apply ah.dec|apply ah.eq|apply ah.ne|apply ah.split)<;>intro)|(simp(disch:=omega)only[↓wr,seval,wq]))
  simp[sK,h]
theorem Pg (s:ByteArray):az Tryz.prog 151 [gs s] (gb (sK (gx s))) :=
 az.of (rH s) ((PB s _).mono λr H' h a _=>by rw[h.1];exact .tree _ (.val _))
def pD (s:ByteArray):List ByteArray->Int->Int
 | [],_=>-1
 | x :: l,i=>if jR x s=true then i else pD s l (i+1)
def nW (g:aj) (s:ByteArray):Int:=pD s (g.af.map Term.name) 0
def Bd (g:aj) (s:ByteArray):Int:=pD s g.ak 0
theorem fw {α:Type} {l:List α} {i:Nat} (h:i < l.length):l.drop i=l[i] :: l.drop (i+1):=aad h
theorem KA (g:aj) (s:ByteArray):∀ v∈[V.agg (ag g),gs s],Tree v:=by
 intro v a;simp at a
 rcases a with rfl | rfl
 .exact cb _ (cY g)
 .exact .val _
theorem dT (g:aj):∀ v∈[V.agg (ag g)],Tree v:=by intro v a;simp at a;subst a;exact cb _ (cY g)
theorem JL (g:aj) (x:Int):∀ v∈[V.agg (ag g),gi x],Tree v:=by
 intro v a;simp at a
 rcases a with rfl | rfl
 .exact cb _ (cY g)
 .exact .val _
theorem az.val {P:Program} {f:FuncId} {vs:List V} {x:Value} (a:∀ v∈vs,Tree v) (h:∀ H,au P f vs H λr _=>r=.val x):az P f vs (.val x) :=
 az.of a ((h _).mono λr H' e b _=>by rw[e];exact .tree _ (.val _))
def pO:SC :=
 ae [ae [ab [aa 6 5,ao 7 0 2,ai 8 7,aP 9 8,aS 10 .lss 6 9],bT 10 (.exit 0)],.block 1 (ae [ab [ao 13 0 2,ai 14 13,aa 15 5,aH 16 3 14 15,ao 17 0 16,ai 18 17,aa 19 1,((some 20),.op (.zX .eql (.tmp 18) (.tmp 19)))],bc 20 (ae [ab [aa 21 5,aa 4 21],.ret])]),ab [aa 11 5,aG 12 .add 11 1,aa 5 12]]
def sE:SF:=⟨ae [ab [cw 2 0,aQ 4 0],ae [ab [aQ 5 0],bU 0 pO],ab [aQ 4 (-1)],.ret],
 [.tmp 4],22⟩
theorem x5:aN Tryz.prog 152 [2]=some sE:=by kernel_rfl
def qY:SC :=
 ae [ae [ab [aa 6 5,ao 7 1 2,ai 8 7,aP 9 8,aS 10 .lss 6 9],bT 10 (.exit 0)],.block 1 (ae [ab [ao 13 1 2,ai 14 13,aa 15 5,aH 16 1 14 15,ai 17 16,aa 18 1,((some 19),.op (.zX .eql (.tmp 17) (.tmp 18)))],bc 19 (ae [ab [aa 20 5,aa 4 20],.ret])]),ab [aa 11 5,aG 12 .add 11 1,aa 5 12]]
def tA:SF:=⟨ae [ab [cw 2 0,aQ 4 0],ae [ab [aQ 5 0],bU 0 qY],ab [aQ 4 (-1)],.ret],
 [.tmp 4],21⟩
theorem yR:aN Tryz.prog 139 [2]=some tA:=by kernel_rfl
def ph:SC :=
 ae [ae [ab [aa 8 6,ao 9 0 2,ai 10 9,aP 11 10,aS 12 .lss 8 11],bT 12 (.exit 0)],.block 1 (ae [.region false [⟨none,[ao 15 0 2,ai 16 15,aa 17 6,aH 18 3 16 17,aT 19 3 18,((some 7),.op (.alloc [(.val (.string ⟨#[]⟩)),(.val (.int .i64 0)),(.val (.int .i64 0))])),bK 3 7 19]⟩],ae [ab [ao 20 1 7,ai 21 20,aa 22 1,aS 23 .neq 21 22],bc 23 (.exit 1)],ae [.region false [⟨none,[aa 24 5,aG 25 .neq 24 0,aa 26 25]⟩,⟨(some (26,true)),[aa 27 5,ao 28 2 7,ai 29 28,aS 30 .neq 27 29]⟩,⟨none,[eF 31 26 30]⟩],bc 31 (ae [ab [bz 4 false],.ret])],ab [ao 32 2 7,ai 33 32,aa 5 33]]),ab [aa 13 6,aG 14 .add 13 1,aa 6 14]]
def qG:SF:=⟨ae [ab [cw 2 0,bz 4 false],ab [aQ 5 0],ae [ab [aQ 6 0],bU 0 ph],ab [aa 34 5,aG 35 .neq 34 0,aa 4 35],.ret],
 [.tmp 4],36⟩
theorem xm:aN Tryz.prog 153 [2]=some qG:=by kernel_rfl
theorem Q0 (g:aj) (d:g.Ok) (s:ByteArray) (H:View):au Tryz.prog 152 [.agg (ag g),gs s] H λr _=>r=gi (nW g s):=by
 refine au.of mixed x5 ?_
 have hs:g.af.length < 4611686018427387904:=d.af
 simp(disch:=omega)only[↓wr,seval,wq,sE,ag,encS]
 refine aR.intro (λk T _=>∃ i:Nat,i+k=g.af.length/\pD s ((g.af.drop i).map Term.name) i=nW g s/\T 1=gs s/\T 2=.aI (ag g) 0/\T 5=gi i) g.af.length ?_ ?_
 .exact⟨0,by omega,rfl,rfl,rfl,rfl⟩
 .rintro k T H' ⟨i,hk,hi,h1,a,b⟩
  simp(disch:=omega)only[↓wr,seval,wq,pO,h1,a,b,ag]
  apply ah.dec<;>intro e
  .have c:g.af[i]?=some (g.af[i]'(by omega)):=Zj (by omega)
   rw[fw (show i < g.af.length by omega)] at hi
   generalize g.af[i]'(by omega)=t at c hi
   simp only[ZJ,pD] at hi
   simp(disch:=omega)only[↓wr,seval,wq,h1,a,b,ag,bS,Zm,c,Zq]
   apply ah.split<;>intro hd
   .rw[Zn hd] at hi
    simp(disch:=omega)only[↓wr,seval,wq,h1,a,b]
    rw[hi]
   .rw[hd,Zk (by simp)] at hi
    simp(disch:=omega)only[↓wr,seval,wq,h1,a,b]
    exact⟨k - 1,by omega,i+1,by omega,by push_cast;exact hi,rfl,rfl⟩
  .rw[ZQ (by omega)] at hi
   simp only[aaK,pD] at hi
   simp(disch:=omega)only[↓wr,seval,wq,h1,a,b]
   rw[hi]
theorem HD (g:aj) (a:g.Ok) (s:ByteArray):az Tryz.prog 152 [.agg (ag g),gs s] (gi (nW g s)):=az.val (KA g s) (Q0 g a s)
theorem TD (g:aj) (d:g.Ok) (s:ByteArray) (H:View):au Tryz.prog 139 [.agg (ag g),gs s] H λr _=>r=gi (Bd g s):=by
 refine au.of mixed yR ?_
 have hs:g.ak.length < 4611686018427387904:=d.ak
 simp(disch:=omega)only[↓wr,seval,wq,tA,ag,encS]
 refine aR.intro (λk T _=>∃ i:Nat,i+k=g.ak.length/\pD s (g.ak.drop i) i=Bd g s/\T 1=gs s/\T 2=.aI (ag g) 0/\T 5=gi i) g.ak.length ?_ ?_
 .exact⟨0,by omega,rfl,rfl,rfl,rfl⟩
 .rintro k T H' ⟨i,hk,hi,h1,a,b⟩
  simp(disch:=omega)only[↓wr,seval,wq,qY,h1,a,b,ag,encS]
  apply ah.dec<;>intro e
  .have c:g.ak[i]?=some (g.ak[i]'(by omega)):=Zj (by omega)
   rw[fw (show i < g.ak.length by omega)] at hi
   generalize g.ak[i]'(by omega)=t at c hi
   simp only[ZJ,pD] at hi
   simp(disch:=omega)only[↓wr,seval,wq,h1,a,b,ag,encS,Zm,c,Zq]
   apply ah.split<;>intro hd
   .rw[Zn hd] at hi
    simp(disch:=omega)only[↓wr,seval,wq,h1,a,b]
    rw[hi]
   .rw[hd,Zk (by simp)] at hi
    simp(disch:=omega)only[↓wr,seval,wq,h1,a,b]
    exact⟨k - 1,by omega,i+1,by omega,by push_cast;exact hi,rfl,rfl⟩
  .rw[ZQ (by omega)] at hi
   simp only[aaK,pD] at hi
   simp(disch:=omega)only[↓wr,seval,wq,h1,a,b]
   rw[hi]
theorem TG (g:aj) (a:g.Ok) (s:ByteArray):az Tryz.prog 139 [.agg (ag g),gs s] (gi (Bd g s)):=az.val (KA g s) (TD g a s)
def kc (n:Int):List Term->Int->Option Int
 | [],way=>some way
 | t :: r,way=>if t.level=n then (if way≠0/\way≠t.assoc then none else kc n r t.assoc) else kc n r way
def iP (l:List Term) (n:Int):Bool:=match kc n l 0 with
 | some w=>w != 0
 | none=>false
theorem Pb (g:aj) (j:g.Ok) (n:Int) (H:View):au Tryz.prog 153 [.agg (ag g),gi n] H λr _=>r=gb (iP g.af n):=by
 refine au.of mixed xm ?_
 have hs:g.af.length < 4611686018427387904:=j.af
 simp(disch:=omega)only[↓wr,seval,wq,qG,ag,encS]
 refine aR.intro (λk T _=>∃ (i:Nat) (w:Int),i+k=g.af.length/\kc n (g.af.drop i) w=kc n g.af 0/\T 1=gi n/\T 2=.aI (ag g) 0/\T 5=gi w/\T 6=gi i) g.af.length ?_ ?_
 .exact⟨0,0,by omega,rfl,rfl,rfl,rfl,rfl⟩
 .rintro k T H' ⟨i,w,hk,hi,h1,c,d,f⟩
  simp(disch:=omega)only[↓wr,seval,wq,ph,h1,c,d,f,ag]
  apply ah.dec<;>intro l
  .have h:g.af[i]?=some (g.af[i]'(by omega)):=Zj (by omega)
   rw[fw (show i < g.af.length by omega)] at hi
   generalize g.af[i]'(by omega)=t at h hi
   simp only[kc] at hi
   simp(disch:=omega)only[↓wr,seval,wq,h1,c,d,f,ag,bS,Zm,h,Zq]
   intro m hm
   try simp(disch:=omega)only[↓wr,seval,wq,h1,c,d,f]
   apply ah.ne<;>intro hd
   .rw[Zk hd] at hi
    simp(disch:=omega)only[↓wr,seval,wq,h1,c,d,f]
    exact⟨k - 1,by omega,i+1,w,by omega,hi,by first | rfl | exact⟨rfl,rfl⟩ | exact⟨rfl,rfl,rfl⟩⟩
   .rw[Zn hd] at hi
    repeat' (first | ((first|apply ah.dec|apply ah.eq|apply ah.ne|apply ah.split)<;>intro)|(simp(disch:=omega)only[↓wr,seval,wq,h1,c,d,f]))
    .rename_i a b
     rw[Zn ⟨a,b⟩] at hi
     simp only[iP,<-hi]
    .rename_i a b
     rw[Zk (λe=>e.2 b)] at hi
     exact⟨k - 1,by omega,i+1,_,by omega,hi,by first | rfl | exact⟨rfl,rfl⟩ | exact⟨rfl,rfl,rfl⟩⟩
    .rename_i a
     rw[Zk (λe=>e.1 a)] at hi
     exact⟨k - 1,by omega,i+1,_,by omega,hi,by first | rfl | exact⟨rfl,rfl⟩ | exact⟨rfl,rfl,rfl⟩⟩
  .rw[ZQ (by omega)] at hi
   simp only[kc] at hi
   simp(disch:=omega)only[↓wr,seval,wq,h1,c,d,f]
   simp only[iP,<-hi]
theorem O6 (g:aj) (a:g.Ok) (n:Int):az Tryz.prog 153 [.agg (ag g),gi n] (gb (iP g.af n)):=az.val (JL g n) (Pb g a n)
def tI (g:aj) (t:Term):Bool:=(List.range t.level.toNat).all λk=>iP g.af ((k:Int)+1)
def lK (g:aj) (i:Int) (t:Term):Bool :=
 sK (gx t.name) && (nW g t.name == i) && decide (0<=t.level) && decide (t.level<=24) && decide (0<=t.assoc) && decide (t.assoc<=3) && ((t.level == 0) == (t.assoc == 0)) && tI g t
def kQ (g:aj):List Term->Int->Bool
 | [],_=>true
 | t :: r,i=>lK g i t && kQ g r (i+1)
def lf (g:aj):Bool:=decide (g.af.length<=24) && kQ g g.af 0
def oH:SC :=
 ae [ae [ab [aa 63 5,ao 64 1 4,ai 65 64,aS 66 .leq 63 65],bT 66 (.exit 2)],.block 3 (ae [ab [aT 69 4 1,aa 70 5,bh 71 153 [69,70],c6 72 71],bc 72 (ae [ab [bz 2 false],.ret])]),ab [aa 67 5,aG 68 .add 67 1,aa 5 68]]
def pr:SC :=
 ae [ae [ab [aa 10 3,ao 11 0 1,ai 12 11,aP 13 12,aS 14 .lss 10 13],bT 14 (.exit 0)],.block 1 (ae [.region false [⟨none,[ao 17 0 1,ai 18 17,aa 19 3,aH 20 3 18 19,aT 21 3 20,((some 4),.op (.alloc [(.val (.string ⟨#[]⟩)),(.val (.int .i64 0)),(.val (.int .i64 0))])),bK 3 4 21]⟩],ae [.region false [⟨none,[ao 22 0 4,ai 23 22,bh 24 151 [23],c6 25 24,aa 26 25]⟩,⟨(some (26,false)),[aT 27 4 1,ao 28 0 4,ai 29 28,bh 30 152 [27,29],aa 31 3,aS 32 .neq 30 31]⟩,⟨none,[cD 33 26 32,aa 34 33]⟩,⟨(some (34,false)),[ao 35 1 4,ai 36 35,aG 37 .lss 36 0]⟩,⟨none,[cD 38 34 37,aa 39 38]⟩,⟨(some (39,false)),[ao 40 1 4,ai 41 40,aG 42 .gtr 41 24]⟩,⟨none,[cD 43 39 42,aa 44 43]⟩,⟨(some (44,false)),[ao 45 2 4,ai 46 45,aG 47 .lss 46 0]⟩,⟨none,[cD 48 44 47,aa 49 48]⟩,⟨(some (49,false)),[ao 50 2 4,ai 51 50,aG 52 .gtr 51 3]⟩,⟨none,[cD 53 49 52,aa 54 53]⟩,⟨(some (54,false)),[ao 55 1 4,ai 56 55,aG 57 .eql 56 0,ao 58 2 4,ai 59 58,aG 60 .eql 59 0,((some 61),.op (.beq false (.tmp 57) (.tmp 60)))]⟩,⟨none,[cD 62 54 61]⟩],bc 62 (ae [ab [bz 2 false],.ret])],ab [aQ 5 1],bU 2 oH]),ab [aa 15 3,aG 16 .add 15 1,aa 3 16]]
def qH:SF:=⟨ae [ab [cw 1 0,bz 2 false],ae [ab [ao 6 0 1,ai 7 6,aP 8 7,aG 9 .gtr 8 24],bc 9 (ae [ab [bz 2 false],.ret])],ae [ab [aQ 3 0],bU 0 pr],ab [bz 2 true],.ret],
 [.tmp 2],73⟩
theorem wP:aN Tryz.prog 104 [1]=some qH:=by kernel_rfl
def qm:SC :=
 ae [ae [ab [aa 14 3,ao 15 1 1,ai 16 15,aP 17 16,aS 18 .lss 14 17],bT 18 (.exit 0)],.block 1 (ae [.region false [⟨none,[ao 21 1 1,ai 22 21,aa 23 3,aH 24 1 22 23,ai 25 24,bh 26 154 [25],c6 27 26,aa 28 27]⟩,⟨(some (28,false)),[aT 29 4 1,ao 30 1 1,ai 31 30,aa 32 3,aH 33 1 31 32,ai 34 33,bh 35 139 [29,34],aa 36 3,aS 37 .neq 35 36]⟩,⟨none,[cD 38 28 37,aa 39 38]⟩,⟨(some (39,false)),[aT 40 4 1,ao 41 1 1,ai 42 41,aa 43 3,aH 44 1 42 43,ai 45 44,bh 46 152 [40,45],aG 47 .geq 46 0]⟩,⟨none,[cD 48 39 47]⟩],bc 48 (ae [ab [bz 2 false],.ret])]),ab [aa 19 3,aG 20 .add 19 1,aa 3 20]]
def sT:SF:=⟨ae [ab [cw 1 0,bz 2 false],ae [.region false [⟨none,[ao 4 1 1,ai 5 4,aP 6 5,aG 7 .lss 6 1,aa 8 7]⟩,⟨(some (8,false)),[ao 9 1 1,ai 10 9,aP 11 10,aG 12 .gtr 11 16]⟩,⟨none,[cD 13 8 12]⟩],bc 13 (ae [ab [bz 2 false],.ret])],ae [ab [aQ 3 0],bU 0 qm],ab [bz 2 true],.ret],
 [.tmp 2],49⟩
theorem yn:aN Tryz.prog 105 [1]=some sT:=by kernel_rfl
def pP:SC :=
 ae [ae [ab [aa 23 5,ao 24 1 3,ai 25 24,aP 26 25,aS 27 .lss 23 26],bT 27 (.exit 0)],.block 1 (ae [.region false [⟨none,[aT 30 4 2,ao 31 1 3,ai 32 31,aa 33 5,aH 34 1 32 33,ai 35 34,bh 36 155 [30,35],c6 37 36,aa 38 37]⟩,⟨(some (38,false)),[ao 39 1 3,ai 40 39,aa 41 5,aH 42 1 40 41,ai 43 42,aG 44 .geq 43 0,aa 45 44]⟩,⟨(some (45,true)),[ao 46 2 3,ai 47 46,aG 48 .eql 47 (-1)]⟩,⟨(some (38,false)),[eF 49 45 48]⟩,⟨none,[cD 50 38 49]⟩],bc 50 (ae [ab [bz 4 false],.ret])]),ab [aa 28 5,aG 29 .add 28 1,aa 5 29]]
def sg:SF:=⟨ae [ab [cw 2 0,cw 3 1,bz 4 false],ae [.region false [⟨none,[ao 6 1 3,ai 7 6,aP 8 7,aG 9 .gtr 8 6,aa 10 9]⟩,⟨(some (10,false)),[ao 11 2 3,ai 12 11,aG 13 .lss 12 (-1)]⟩,⟨none,[cD 14 10 13,aa 15 14]⟩,⟨(some (15,false)),[ao 16 2 3,ai 17 16,ao 18 0 2,ai 19 18,aP 20 19,aS 21 .geq 17 20]⟩,⟨none,[cD 22 15 21]⟩],bc 22 (ae [ab [bz 4 false],.ret])],ae [ab [aQ 5 0],bU 0 pP],ab [bz 4 true],.ret],
 [.tmp 4],51⟩
theorem yi:aN Tryz.prog 106 [2,3]=some sg:=by kernel_rfl
def pv:SC :=
 ae [ae [ab [aa 39 4,ao 40 2 1,ai 41 40,aP 42 41,aS 43 .lss 39 42],bT 43 (.exit 0)],.block 1 (ae [ab [ao 46 2 1,ai 47 46,aa 48 4,aH 49 3 47 48,aT 50 3 49,((some 5),.op (.alloc [(.val (.int .i64 0)),(.emp 1),(.val (.int .i64 0))])),bK 3 5 50],ae [.region false [⟨none,[ao 51 0 5,ai 52 51,aG 53 .lss 52 0,aa 54 53]⟩,⟨(some (54,false)),[ao 55 0 5,ai 56 55,aa 57 3,aG 58 .add 57 1,aS 59 .gtr 56 58]⟩,⟨none,[cD 60 54 59,aa 61 60]⟩,⟨(some (61,false)),[aT 62 4 1,aT 63 3 5,bh 64 106 [62,63],c6 65 64]⟩,⟨none,[cD 66 61 65]⟩],bc 66 (ae [ab [bz 2 false],.ret])],ab [ao 67 0 5,ai 68 67,aa 69 3,aS 70 .gtr 68 69],bc 70 (ab [ao 71 0 5,ai 72 71,aa 3 72])]),ab [aa 44 4,aG 45 .add 44 1,aa 4 45]]
def qZ:SF:=⟨ae [ab [cw 1 0,bz 2 false],ae [.region false [⟨none,[aT 6 4 1,bh 7 104 [6],c6 8 7,aa 9 8]⟩,⟨(some (9,false)),[aT 10 4 1,bh 11 105 [10],c6 12 11]⟩,⟨none,[cD 13 9 12,aa 14 13]⟩,⟨(some (14,false)),[ao 15 2 1,ai 16 15,aP 17 16,aG 18 .lss 17 1]⟩,⟨none,[cD 19 14 18,aa 20 19]⟩,⟨(some (20,false)),[ao 21 2 1,ai 22 21,aP 23 22,aG 24 .gtr 23 40]⟩,⟨none,[cD 25 20 24,aa 26 25]⟩,⟨(some (26,false)),[ao 27 3 1,ai 28 27,aG 29 .lss 28 0]⟩,⟨none,[cD 30 26 29,aa 31 30]⟩,⟨(some (31,false)),[ao 32 3 1,ai 33 32,ao 34 1 1,ai 35 34,aP 36 35,aS 37 .geq 33 36]⟩,⟨none,[cD 38 31 37]⟩],bc 38 (ae [ab [bz 2 false],.ret])],ab [aQ 3 (-1)],ae [ab [aQ 4 0],bU 0 pv],ab [aa 73 3,ao 74 1 1,ai 75 74,aP 76 75,aG 77 .sub 76 1,aS 78 .eql 73 77,aa 2 78],.ret],
 [.tmp 2],79⟩
theorem wJ:aN Tryz.prog 54 [1]=some qZ:=by kernel_rfl
theorem OS (g:aj) (p:g.Ok) (H:View):au Tryz.prog 104 [.agg (ag g)] H λr _=>r=gb (lf g):=by
 refine au.of mixed wP ?_
 simp(disch:=omega)only[↓wr,seval,wq,qH,ag,encS]
 apply ah.dec<;>intro h
 .simp(disch:=omega)only[↓wr,seval,wq]
  simp[lf,show ¬ g.af.length<=24 by omega]
 .have hle:g.af.length<=24:=by omega
  simp(disch:=omega)only[↓wr,seval,wq]
  refine aR.intro (λk T _=>∃ i:Nat,i+k=g.af.length/\kQ g (g.af.drop i) i=kQ g g.af 0/\T 1=.aI (ag g) 0/\T 3=gi i) g.af.length ?_ ?_
  .exact⟨0,by omega,rfl,rfl,rfl⟩
  .rintro k T H' ⟨i,hk,hi,h1,d⟩
   simp(disch:=omega)only[↓wr,seval,wq,pr,h1,d,ag]
   apply ah.dec<;>intro y
   .have f:g.af[i]?=some (g.af[i]'(by omega)):=Zj (by omega)
    rw[fw (show i < g.af.length by omega)] at hi
    have b:g.af[i]'(by omega)∈g.af:=Zs _
    generalize g.af[i]'(by omega)=t at f hi b
    obtain⟨⟨z,A⟩,⟨B,C⟩⟩:=p.term t b
    simp only[kQ] at hi
    have a:lK g i t=false->gb false=gb (lf g):=λe=>by rw[e,aa0] at hi;simp[lf,<-hi]
    simp(disch:=omega)only[↓wr,seval,wq,h1,d,ag,bS,Zm,f,Zq]
    intro m hm
    try simp(disch:=omega)only[↓wr,seval,wq,h1,d]
    refine ax.pure (Pg t.name) ?_
    repeat' (first | ((first|apply ah.dec|apply ah.eq|apply ah.ne|apply ah.split)<;>intro)|(simp(disch:=omega)only[↓wr,seval,wq,h1,d,ag]))
    all_goals try (refine a ?_;simp[lK, *];done)
    rename_i s
    refine ax.pure (HD g p t.name) ?_
    repeat' (first | ((first|apply ah.dec|apply ah.eq|apply ah.ne|apply ah.split)<;>intro)|(simp(disch:=omega)only[↓wr,seval,wq,h1,d,ag]))
    all_goals try (refine a ?_;simp[lK, *];done)
    all_goals try (refine a ?_;simp[lK];grind)
    rename_i D I J K L E
    have c:lK g i t=tI g t:=by
     have u:((t.level == 0) == (t.assoc == 0))=true:=by simpa using E
     simp[lK,s,D,u,show (0:Int)<=t.level by omega,show t.level<=24 by omega,show (0:Int)<=t.assoc by omega,show t.assoc<=3 by omega]
    refine aR.intro (λv T l=>∃ j:Nat,1<=j/\j+v=t.level.toNat+1/\(∀ q:Nat,q+1 < j->iP g.af ((q:Int)+1)=true)/\T 1=.aI (ag g) 0/\T 3=gi i/\T 4=.ptr m 0 0/\l m=.arr 3 [[gs t.name,gi t.level,gi t.assoc]]/\T 5=gi j) t.level.toNat ?_ ?_
    .refine⟨1,by omega,by omega,λq hq=>by omega,?_⟩
     simp(disch:=omega)only[↓wr,↓reduceIte,wq,Nat.reduceEqDiff,Nat.reduceAdd,Nat.reduceLT,Nat.reduceLeDiff,Int.reduceNeg,Int.reduceToNat,reduceCtorEq,h1,d,ag]
     rfl
    .rintro v M l ⟨j,F,G,n,f1,f3,f4,o,f5⟩
     simp(disch:=omega)only[↓wr,seval,wq,oH,f1,f3,f4,f5,o]
     apply ah.dec<;>intro hd
     .simp(disch:=omega)only[↓wr,seval,wq,f1,f3,f4,f5,o,ag]
      refine ax.pure (O6 g p j) ?_
      repeat' (first | ((first|apply ah.dec|apply ah.eq|apply ah.ne|apply ah.split)<;>intro)|(simp(disch:=omega)only[↓wr,seval,wq,f1,f3,f4,f5,o,ag]))
      .rename_i w
       refine⟨v - 1,by omega,j+1,by omega,by omega,λq hq=>?_,by first | rfl | exact⟨rfl,rfl⟩ | exact⟨rfl,rfl,rfl⟩⟩
       by_cases e:q+1=j
       .have:(q:Int)+1=j:=by omega
        rw[this];exact w
       .exact n q (by omega)
      .rename_i w
       refine a ?_
       rw[c,tI,List.all_eq_false]
       refine⟨j - 1,by simp;omega,?_⟩
       have:((j - 1:Nat):Int)+1=j:=by omega
       rw[this,w];simp
     .simp(disch:=omega)only[↓wr,seval,wq,f1,f3,f4,f5,o]
      refine⟨k - 1,by omega,i+1,by omega,?_,by first | rfl | exact⟨rfl,rfl⟩ | exact⟨rfl,rfl,rfl⟩⟩
      have x:tI g t=true:=by
       rw[tI,ZZ]
       intro q hq
       exact n q (by simp at hq;omega)
      rw[c,x,aaH] at hi
      push_cast;exact hi
   .rw[ZQ (by omega)] at hi
    simp only[kQ] at hi
    simp(disch:=omega)only[↓wr,seval,wq,h1,d]
    simp[lf,hle,<-hi]
theorem ON (g:aj) (a:g.Ok):az Tryz.prog 104 [.agg (ag g)] (gb (lf g)):=az.val (dT g) (OS g a)
def nt (g:aj) (i:Int) (s:ByteArray):Bool:=iq (gx s) && (Bd g s == i) && decide (nW g s < 0)
def tO (g:aj):List ByteArray->Int->Bool
 | [],_=>true
 | s :: r,i=>nt g i s && tO g r (i+1)
def lU (g:aj):Bool:=decide (1<=g.ak.length) && decide (g.ak.length<=16) && tO g g.ak 0
theorem S7 (g:aj) (h:g.Ok) (H:View):au Tryz.prog 105 [.agg (ag g)] H λr _=>r=gb (lU g):=by
 refine au.of mixed yn ?_
 repeat' (first | ((first|apply ah.dec|apply ah.eq|apply ah.ne|apply ah.split)<;>intro)|(simp(disch:=omega)only[↓wr,seval,wq,sT,ag,encS]))
 .simp[lU,show ¬ 1<=g.ak.length by omega]
 .simp[lU,show ¬ g.ak.length<=16 by omega]
 .have hle:g.ak.length<=16:=by omega
  refine aR.intro (λk T _=>∃ i:Nat,i+k=g.ak.length/\tO g (g.ak.drop i) i=tO g g.ak 0/\T 1=.aI (ag g) 0/\T 3=gi i) g.ak.length ?_ ?_
  .exact⟨0,by omega,rfl,rfl,rfl⟩
  .rintro k T H' ⟨i,hk,hi,h1,c⟩
   simp(disch:=omega)only[↓wr,seval,wq,qm,h1,c,ag,encS]
   apply ah.dec<;>intro j
   .have b:g.ak[i]?=some (g.ak[i]'(by omega)):=Zj (by omega)
    rw[fw (show i < g.ak.length by omega)] at hi
    generalize g.ak[i]'(by omega)=t at b hi
    simp only[tO] at hi
    have a:nt g i t=false->gb false=gb (lU g):=λe=>by rw[e,aa0] at hi;simp[lU,<-hi]
    simp(disch:=omega)only[↓wr,seval,wq,h1,c,ag,encS,Zm,b,Zq]
    refine ax.pure (HI t) ?_
    repeat' (first | ((first|apply ah.dec|apply ah.eq|apply ah.ne|apply ah.split)<;>intro)|(simp(disch:=omega)only[↓wr,seval,wq,h1,c,ag,encS,Zm,b,Zq]))
    all_goals try (refine a ?_;simp[nt, *];done)
    rename_i d
    refine ax.pure (TG g h t) ?_
    repeat' (first | ((first|apply ah.dec|apply ah.eq|apply ah.ne|apply ah.split)<;>intro)|(simp(disch:=omega)only[↓wr,seval,wq,h1,c,ag,encS,Zm,b,Zq]))
    all_goals try (refine a ?_;simp[nt, *];done)
    rename_i f
    refine ax.pure (HD g h t) ?_
    repeat' (first | ((first|apply ah.dec|apply ah.eq|apply ah.ne|apply ah.split)<;>intro)|(simp(disch:=omega)only[↓wr,seval,wq,h1,c,ag,encS]))
    all_goals try (refine a ?_;simp[nt, *];done)
    rename_i l
    refine⟨k - 1,by omega,i+1,by omega,?_,by first | rfl | exact⟨rfl,rfl⟩ | exact⟨rfl,rfl,rfl⟩⟩
    have:nt g i t=true:=by simp[nt,d,f,show nW g t < 0 by omega]
    rw[this,aaH] at hi
    push_cast;exact hi
   .rw[ZQ (by omega)] at hi
    simp only[tO] at hi
    simp(disch:=omega)only[↓wr,seval,wq,h1,c]
    simp[lU,hle,show 1<=g.ak.length by omega,<-hi]
theorem Qi (g:aj) (a:g.Ok):az Tryz.prog 105 [.agg (ag g)] (gb (lU g)):=az.val (dT g) (S7 g a)
def oz (g:aj) (prec s:Int):Bool:=fT g s && !(decide (0<=s) && prec == -1)
def ju (g:aj) (r:bu):Bool:=decide (r.right.length<=6) && decide (-1<=r.prec) && decide (r.prec < g.af.length) && r.right.all (oz g r.prec)
theorem Ka (g:aj) (r:bu):∀ v∈[V.agg (ag g),V.agg (aO r)],Tree v:=by
 intro v a;simp at a
 rcases a with rfl | rfl
 .exact cb _ (cY g)
 .exact cb _ (iz r)
theorem RD (g:aj) (r:bu) (hr:aJ r.right/\∀ x∈r.right,cp x) (H:View):au Tryz.prog 106 [.agg (ag g),.agg (aO r)] H λv _=>v=gb (ju g r):=by
 refine au.of mixed yi ?_
 repeat' (first | ((first|apply ah.dec|apply ah.eq|apply ah.ne|apply ah.split)<;>intro)|(simp(disch:=omega)only[↓wr,seval,wq,sg,ag,encS,aO,encI]))
 .simp[ju,show ¬ r.right.length<=6 by omega]
 .simp[ju,show ¬ -1<=r.prec by omega]
 .simp[ju,show ¬ r.prec < g.af.length by omega]
 .have hle:r.right.length<=6:=by omega
  have j : -1<=r.prec:=by omega
  have l:r.prec < g.af.length:=by omega
  refine aR.intro (λk T _=>∃ i:Nat,i+k=r.right.length/\(r.right.drop i).all (oz g r.prec)=r.right.all (oz g r.prec)/\T 2=.aI (ag g) 0/\T 3=.aI (aO r) 0/\T 5=gi i) r.right.length ?_ ?_
  .exact⟨0,by omega,rfl,rfl,rfl,rfl⟩
  .rintro k T H' ⟨i,hk,hi,d,f,h⟩
   simp(disch:=omega)only[↓wr,seval,wq,pP,d,f,h,aO,encI]
   apply ah.dec<;>intro o
   .have b:r.right[i]?=some (r.right[i]'(by omega)):=Zj (by omega)
    rw[fw (show i < r.right.length by omega)] at hi
    have a:r.right[i]'(by omega)∈r.right:=Zs _
    generalize r.right[i]'(by omega)=t at b hi a
    have m:=hr.2 t a
    simp only[aaG] at hi
    have c:oz g r.prec t=false->gb false=gb (ju g r):=λe=>by rw[e,aa0] at hi;simp only[ju,<-hi,Bool.and_false]
    have n:oz g r.prec t=true->(r.right.drop (i+1)).all (oz g r.prec)=r.right.all (oz g r.prec):=λe=>by rw[e,aaH] at hi;exact hi
    simp(disch:=omega)only[↓wr,seval,wq,d,f,h,ag,encS,aO,encI,Zm,b,Zq]
    refine ax.pure (Qt g t m) ?_
    repeat' (first | ((first|apply ah.dec|apply ah.eq|apply ah.ne|apply ah.split)<;>intro)|(simp(disch:=omega)only[↓wr,seval,wq,d,f,h,ag,encS,aO,encI,Zm,b,Zq]))
    all_goals first
     | (refine c ?_;simp[oz, *];done)
     | (refine⟨k - 1,by omega,i+1,by omega,n (by simp[oz, *];done),by first | rfl | exact⟨rfl,rfl⟩ | exact⟨rfl,rfl,rfl⟩⟩)
     | skip
   .rw[ZQ (by omega)] at hi
    simp only[List.all_nil] at hi
    simp(disch:=omega)only[↓wr,seval,wq,d,f,h]
    simp only[ju,hle,j,l,decide_true,aaH,<-hi]
theorem PM (g:aj) (r:bu) (hr:aJ r.right/\∀ x∈r.right,cp x):az Tryz.prog 106 [.agg (ag g),.agg (aO r)] (gb (ju g r)):=az.val (Ka g r) (RD g r hr)
def iS (g:aj):List bu->Int->Bool
 | [],top=>top == (g.ak.length:Int) - 1
 | r :: l,top=>decide (0<=r.left) && decide (r.left<=top+1) && ju g r && iS g l (if r.left > top then r.left else top)
def bI (g:aj):Bool :=
 lf g && lU g && decide (1<=g.rules.length) && decide (g.rules.length<=40) && decide (0<=g.start) && decide (g.start < g.ak.length) && iS g g.rules (-1)
theorem Oe (g:aj) (h:g.Ok) (H:View):au Tryz.prog 54 [.agg (ag g)] H λr _=>r=gb (bI g):=by
 refine au.of mixed wJ ?_
 have o:=h.ak
 unfold aJ at o
 simp(disch:=omega)only[↓wr,seval,wq,qZ,ag,encS]
 refine ax.pure (ON g h) ?_
 repeat' (first | ((first|apply ah.dec|apply ah.eq|apply ah.ne|apply ah.split)<;>intro)|(simp(disch:=omega)only[↓wr,seval,wq,ag,encS]))
 .rename_i h1
  refine ax.pure (Qi g h) ?_
  repeat' (first | ((first|apply ah.dec|apply ah.eq|apply ah.ne|apply ah.split)<;>intro)|(simp(disch:=omega)only[↓wr,seval,wq,ag,encS]))
  all_goals try (simp[bI, *];done)
  all_goals try (simp[bI];omega)
  rename_i p y z A B
  have hle:g.rules.length<=40:=by omega
  have a:∀ b,iS g g.rules (-1)=b->gb b=gb (bI g):=λb e=>by
   simp[bI,h1,p,show 1<=g.rules.length by omega,hle,show 0<=g.start by omega,show g.start < g.ak.length by omega,e]
  refine aR.intro (λk T _=>∃ (i:Nat) (w:Int),i+k=g.rules.length/\-1<=w/\w < i/\iS g (g.rules.drop i) w=iS g g.rules (-1)/\T 1=.aI (ag g) 0/\T 3=gi w/\T 4=gi i) g.rules.length ?_ ?_
  .exact⟨0,-1,by omega,by omega,by omega,rfl,rfl,rfl,rfl⟩
  .rintro k T H' ⟨i,w,hk,q,s,hi,f1,f3,f4⟩
   simp(disch:=omega)only[↓wr,seval,wq,pv,f1,f3,f4,ag]
   apply ah.dec<;>intro u
   .have d:g.rules[i]?=some (g.rules[i]'(by omega)):=Zj (by omega)
    rw[fw (show i < g.rules.length by omega)] at hi
    have c:g.rules[i]'(by omega)∈g.rules:=Zs _
    generalize g.rules[i]'(by omega)=t at d hi c
    obtain⟨⟨v,x⟩,hp,j,l⟩:=h.aw t c
    simp only[iS] at hi
    simp(disch:=omega)only[↓wr,seval,wq,f1,f3,f4,ag,encS,aO,encI,Zm,d,Zq]
    intro m hm
    try simp(disch:=omega)only[↓wr,seval,wq,f1,f3,f4]
    repeat' (first | ((first|apply ah.dec|apply ah.eq|apply ah.ne|apply ah.split)<;>intro)|(simp(disch:=omega)only[↓wr,seval,wq,f1,f3,f4,ag,encS,aO,encI]))
    all_goals try (refine a _ ?_;simp only[<-hi];simp;omega)
    rename_i C D
    refine ax.pure (PM g t ⟨j,l⟩) ?_
    repeat' (first | ((first|apply ah.dec|apply ah.eq|apply ah.ne|apply ah.split)<;>intro)|(simp(disch:=omega)only[↓wr,seval,wq,f1,f3,f4,ag,encS,aO,encI]))
    all_goals simp only[show 0<=t.left by omega,show t.left<=w+1 by omega,decide_true,aaH] at hi
    .rename_i f n
     rw[f,aaH,Zn n] at hi
     exact⟨k - 1,by omega,i+1,_,by omega,by omega,by push_cast;omega,hi,by first | rfl | exact⟨rfl,rfl⟩ | exact⟨rfl,rfl,rfl⟩⟩
    .rename_i f n
     rw[f,aaH,Zk n] at hi
     exact⟨k - 1,by omega,i+1,_,by omega,by omega,by push_cast;omega,hi,by first | rfl | exact⟨rfl,rfl⟩ | exact⟨rfl,rfl,rfl⟩⟩
    .rename_i f
     rw[f,aa0] at hi
     exact a _ hi.symm
   .rw[ZQ (by omega)] at hi
    simp only[iS] at hi
    simp(disch:=omega)only[↓wr,seval,wq,f1,f3,f4,ag,encS]
    exact a _ hi.symm
 .rename_i h1;simp[bI,h1]
theorem kH (g:aj) (a:g.Ok):az Tryz.prog 54 [.agg (ag g)] (gb (bI g)):=az.val (dT g) (Oe g a)
inductive cX (α:Type) where
 | nil
 | node (v:α) (l r:cX α)
noncomputable def cX.get {α:Type} (z:α) (t:cX α):Nat->α :=
 cX.rec (motive:=λ_=>Nat->α) (λ_=>z) (λv _ _ gl gr i=>Bool.rec (Bool.rec (gr (i / 2 - 1)) (gl (i / 2)) (Nat.beq (i % 2) 1)) v (Nat.beq i 0)) t
theorem cX.get_nil {α:Type} (z:α) (i:Nat):cX.get z .nil i=z:=rfl
theorem cX.UH {α:Type} (z v:α) (l r:cX α) (i:Nat):cX.get z (.node v l r) i=match Nat.beq i 0 with
  | true=>v
  | false=>match Nat.beq (i % 2) 1 with
   | true=>cX.get z l (i / 2)
   | false=>cX.get z r (i / 2 - 1):=by
 change (Bool.rec (motive:=λ_=>α) _ _ _:α)=_
 cases Nat.beq i 0 with
 | true=>rfl
 | false=>cases Nat.beq (i % 2) 1 <;> rfl
def cX.val {α:Type} (z:α):cX α->α
 | .nil=>z
 | .node v _ _=>v
def cX.left {α:Type} : cX α->cX α
 | .nil=>.nil
 | .node _ l _=>l
def cX.right {α:Type} : cX α->cX α
 | .nil=>.nil
 | .node _ _ r=>r
noncomputable def cX.put {α:Type} (z:α) (x:α) (d:Nat):cX α->Nat->cX α :=
 Nat.rec (motive:=λ_=>cX α->Nat->cX α) (λt _=>t) (λ_ pd t i =>
  Bool.rec (Bool.rec (.node (t.val z) t.left (pd t.right (i / 2 - 1))) (.node (t.val z) (pd t.left (i / 2)) t.right) (Nat.beq (i % 2) 1)) (.node x t.left t.right) (Nat.beq i 0)) d
theorem cX.Us {α:Type} (z x:α) (d:Nat) (t:cX α) (i:Nat):cX.put z x (d+1) t i=match Nat.beq i 0 with
  | true=>.node x t.left t.right
  | false=>match Nat.beq (i % 2) 1 with
   | true=>.node (t.val z) (cX.put z x d t.left (i / 2)) t.right
   | false=>.node (t.val z) t.left (cX.put z x d t.right (i / 2 - 1)):=by
 change (Bool.rec (motive:=λ_=>cX α) _ _ _:cX α)=_
 cases Nat.beq i 0 with
 | true=>rfl
 | false=>cases Nat.beq (i % 2) 1 <;> rfl
theorem cX.oO {α:Type} (z:α) (t:cX α) (j:Nat):t.get z j=if j=0 then t.val z else if j % 2=1 then t.left.get z (j / 2) else t.right.get z (j / 2 - 1):=by
 cases t with
 | nil=>simp[cX.get_nil,cX.val,cX.left,cX.right]
 | node v l r =>
  simp only[cX.UH,cX.val,cX.left,cX.right]
  by_cases h:j=0
  .subst h;rfl
  .have:Nat.beq j 0=false:=by cases e:Nat.beq j 0 with | true=>exact absurd (abh e) h | false=>rfl
   rw[this,Zk h]
   simp only
   by_cases a:j % 2=1
   .have:Nat.beq (j % 2) 1=true:=by rw[a];rfl
    rw[this,Zn a]
   .have:Nat.beq (j % 2) 1=false:=by cases e:Nat.beq (j % 2) 1 with | true=>exact absurd (abh e) a | false=>rfl
    rw[this,Zk a]
theorem cX.oV {α:Type} (z x:α):∀ (d:Nat) (t:cX α) (i j:Nat),i+1 < 2 ^ d->(cX.put z x d t i).get z j=if j=i then x else t.get z j
 | 0,t,i,j,h=>by simp at h
 | d+1,t,i,j,h=>by
  rw[Nat.pow_succ] at h
  simp only[cX.Us]
  by_cases hi:i=0
  .subst hi
   have:Nat.beq 0 0=true:=rfl
   rw[this]
   simp only
   rw[cX.oO,cX.oO z t]
   simp only[cX.val,cX.left,cX.right]
   by_cases b:j=0
   .rw[Zn b,Zn b]
   .rw[Zk b,Zk b,Zk b]
  .have:Nat.beq i 0=false:=by cases e:Nat.beq i 0 with | true=>exact absurd (abh e) hi | false=>rfl
   rw[this]
   simp only
   by_cases c:i % 2=1
   .have:Nat.beq (i % 2) 1=true:=by rw[c];rfl
    rw[this]
    simp only
    rw[cX.oO,cX.oO z t]
    simp only[cX.val,cX.left,cX.right]
    by_cases b:j=0
    .subst b;rw[Zn rfl,Zk (λe=>hi e.symm),Zn rfl]
    .rw[Zk b,Zk b]
     by_cases a:j % 2=1
     .rw[Zn a,Zn a,cX.oV z x d _ _ _ (by omega)]
      by_cases e:j=i
      .subst e;simp
      .rw[Zk e,Zk (by omega)]
     .rw[Zk a,Zk a,Zk (λe=>a (by rw[e];exact c))]
   .have:Nat.beq (i % 2) 1=false:=by cases e:Nat.beq (i % 2) 1 with | true=>exact absurd (abh e) c | false=>rfl
    rw[this]
    simp only
    rw[cX.oO,cX.oO z t]
    simp only[cX.val,cX.left,cX.right]
    by_cases b:j=0
    .subst b;rw[Zn rfl,Zk (λe=>hi e.symm),Zn rfl]
    .rw[Zk b,Zk b]
     by_cases a:j % 2=1
     .rw[Zn a,Zn a,Zk (λe=>c (by rw[<-e];exact a))]
     .rw[Zk a,Zk a,cX.oV z x d _ _ _ (by omega)]
      by_cases e:j=i
      .subst e;simp
      .rw[Zk e,Zk (by omega)]
abbrev deep:Nat:=13
structure ES where
 L:cX V
 H:cX cU
 n:Nat
 w:List Nat
noncomputable def ES.T (s:ES):Env:=s.L.get .any
noncomputable def ES.V (s:ES):View:=s.H.get .dead
noncomputable def ES.put (s:ES) (d:Option Nat) (v:Gv.V):ES:=match d with
 | some t=>⟨s.L.put .any v deep t,s.H,s.n,s.w⟩
 | none=>s
theorem ES.Vl {s:ES} {d:Option Nat} {v:Gv.V} (h:∀ t,d=some t->t < 8000):(s.put d v).T=s.T.put d v:=by
 cases d with
 | none=>rfl
 | some t =>
  funext k
  have:=h t rfl
  simp only[ES.put,ES.T,Env.put]
  rw[cX.oV _ _ _ _ _ _ (by simp[deep];omega)]
noncomputable def KO (v:V) (eff:bH) (rd:List Nat) (s:ES):Option (V × ES × Rec):=match eff with
 | .none=>some (v,s,⟨rd,[],false,s.n,s.n⟩)
 | .new o=>match Nat.ble s.n 8000 with
  | true=>some (v,⟨s.L,s.H.put .dead o deep s.n,s.n+1,s.w⟩,⟨rd,[],false,s.n,s.n+1⟩)
  | false=>none
 | .fK id o=>match Nat.ble id 8000 with
  | true=>some (v,⟨s.L,s.H.put .dead o deep id,s.n,id :: s.w⟩,⟨rd,[id],false,s.n,s.n⟩)
  | false=>none
 | .er id o=>match Nat.ble s.n 8000,Nat.ble id 8000 with
  | true,true=>some (v,⟨s.L,(s.H.put .dead .dead deep id).put .dead o deep s.n,s.n+1,id :: s.w⟩,⟨rd,[id],false,s.n,s.n+1⟩)
  | _,_=>none
noncomputable def YT (x:SX) (_:Program) (T:Env) (_:View) (_:Nat):Out:=some (x.at T,.none,[])
noncomputable def XI (c a b:SX) (_:Program) (T:Env) (_:View) (_:Nat):Out:=match c.at T with
 | .val (.bool t)=>some (if t then a.at T else b.at T,.none,[])
 | _=>none
noncomputable def XQ (sz:Option Nat) (a:SX) (_:Program) (T:Env) (H:View) (_:Nat):Out:=zy sz (a.at T) H
noncomputable def WO (sz:Nat) (a x:SX) (_:Program) (T:Env) (H:View) (_:Nat):Out:=FA sz (a.at T) (x.at T) H
noncomputable def XL (off:Nat) (x:SX) (_:Program) (T:Env) (_:View) (_:Nat):Out:=Ce off (x.at T)
noncomputable def YE (sz:Nat) (x i:SX) (_:Program) (T:Env) (_:View) (_:Nat):Out:=FW sz (x.at T) (i.at T)
noncomputable def YM (x:SX) (_:Program) (T:Env) (_:View) (_:Nat):Out:=(cT (x.at T)).map λn=>(jd n,.none,[])
noncomputable def W8 (op:BinOp) (x y:SX) (_:Program) (T:Env) (_:View) (_:Nat):Out:=AF op (x.at T) (y.at T)
noncomputable def YR (op:BinOp) (x y:SX) (_:Program) (T:Env) (_:View) (_:Nat):Out:=C8 op (x.at T) (y.at T)
noncomputable def YQ (x:SX) (_:Program) (T:Env) (_:View) (_:Nat):Out:=match x.at T with
 | .val (.bool t)=>some (.val (.bool (!t)),.none,[])
 | _=>none
noncomputable def Yn (i:Nat) (x:SX) (_:Program) (T:Env) (_:View) (_:Nat):Out:=match x.at T with
 | .bt vs=>if i < vs.length then some (vs.getD i .any,.none,[]) else none
 | _=>none
noncomputable def XW (x:SX) (_:Program) (T:Env) (_:View) (_:Nat):Out:=match x.at T with
 | .ptr id i j=>some (.ptr id i j,.none,[])
 | .aI e j=>some (.aI e j,.none,[])
 | .fn f a b=>some (.fn f a b,.none,[])
 | _=>none
noncomputable def eI (s:SI):Program->Env->View->Nat->Out:=match s with
 | .er x=>YT x
 | .pick c a b=>XI c a b
 | .load sz a=>XQ sz a
 | .store sz a x=>WO sz a x
 | .addr o x=>XL o x
 | .idx sz x i=>YE sz x i
 | .len x=>YM x
 | .arith op x y=>W8 op x y
 | .zX op x y=>YR op x y
 | .not x=>YQ x
 | .ext i x=>Yn i x
 | .Dn x=>XW x
 | s=>λP T H n=>sI P s T H n
theorem Oj (s:SI) (P:Program) (T:Env) (H:View) (n:Nat):eI s P T H n=sI P s T H n:=by
 cases s <;> rfl
abbrev jm:=FuncId->List V->ES->Option (V × ES)
noncomputable def QX (P:Program) (s:SI) (e:ES):Option (V × ES × Rec):=match eI s P e.T e.V e.n with
 | some (v,eff,rd)=>KO v eff rd e
 | none=>none
noncomputable def Qx (call:jm) (f:SX) (args:List SX) (e:ES):Option (V × ES × Rec):=match f.at e.T with
 | .fn g first cap=>match call g (first ++ args.map (SX.at e.T) ++ cap) e with
  | some (v,e')=>some (v,⟨e.L,e'.H,e'.n,e'.w ++ e.w⟩,⟨[],e'.w,true,e.n,e'.n⟩)
  | none=>none
 | _=>none
noncomputable def eB (P:Program) (call:jm) (b:SB):ES->Option (V × ES × Rec):=match b with
 | .op s=>QX P s
 | .call f args=>Qx call f args
 | .yG ..=>λ_=>none
noncomputable def L1 (P:Program) (call:jm):List (Option Nat × SB)->List Rec->ES->Option (ES × List Rec)
 | [],a,e=>some (e,a)
 | (d,b) :: r,a,e=>match eB P call b e with
  | some (v,e',c)=>L1 P call r (a ++ [c]) (e'.put d v)
  | none=>none
noncomputable def Vt (e:ES):Rec:=⟨[],[],false,e.n,e.n⟩
noncomputable def zh:List (Option Nat × SB)->List Rec->ES->ES × List Rec
 | [],a,e=>(e,a)
 | (d,_) :: r,a,e=>zh r (a ++ [Vt e]) (e.put d (.bt []))
noncomputable def Tg (P:Program) (call:jm) (ops:List (Option Nat × SB)) (want:Bool) (v:V) (a:List Rec) (e:ES):Option (ES × List Rec):=match v with
 | .val (.bool b)=>match xor b want with
  | true=>some (zh ops a e)
  | false=>L1 P call ops a e
 | .bt []=>some (zh ops a e)
 | _=>none
noncomputable def eG (P:Program) (call:jm) (g:SG) (a:List Rec) (e:ES):Option (ES × List Rec):=match g.guard with
 | none=>L1 P call g.ops a e
 | some (d,want)=>Tg P call g.ops want (e.T d) a e
noncomputable def Q5 (P:Program) (call:jm):List SG->List Rec->ES->Option (ES × List Rec)
 | [],a,e=>some (e,a)
 | g :: r,a,e=>match eG P call g a e with
  | some (e',a')=>Q5 P call r a' e'
  | none=>none
inductive DC where
 | skip
 | region (ps:List (Nat × Nat)) (gs:List SG)
 | seq (x y:DC)
 | cond (c:SX) (x y:DC)
 | block (id:Nat) (c:DC)
 | loop (c:DC)
 | exit (id:Nat)
 | ret
 deriving Inhabited
def SE (recs:List Rec) (ps:List (Nat × Nat)):Bool:=ps.all λ(i,k)=>match recs[i]?,recs[k]? with
 | some a,some b=>Gh a b
 | _,_=>false
abbrev ER:=Option (Exit × ES)
abbrev Ad:=DC->ES->ER
noncomputable def Rl:ES->ER:=λe=>some (.normal,e)
noncomputable def NS (P:Program) (call:jm) (ps:List (Nat × Nat)) (gs:List SG) (e:ES):ER:=match Q5 P call gs [] e with
 | some (e',recs)=>match SE recs ps with
  | true=>some (.normal,e')
  | false=>none
 | none=>none
noncomputable def WK (run:Ad) (x y:DC) (e:ES):ER:=match run x e with
 | some (.normal,e')=>run y e'
 | r=>r
noncomputable def VD (run:Ad) (c:SX) (x y:DC) (e:ES):ER:=match c.at e.T with
 | .val (.bool true)=>run x e
 | .val (.bool false)=>run y e
 | _=>none
noncomputable def QV (run:Ad) (id:Nat) (c:DC) (e:ES):ER:=match run c e with
 | some (r,e')=>some (rK id r,e')
 | none=>none
noncomputable def VK (run:Ad) (c:DC) (e:ES):ER:=match run c e with
 | some (.normal,e')=>run (.loop c) e'
 | r=>r
noncomputable def nX (P:Program) (call:jm) (run:Ad) (c:DC):ES->ER:=match c with
 | .skip=>Rl
 | .region ps gs=>NS P call ps gs
 | .seq x y=>WK run x y
 | .cond c x y=>VD run c x y
 | .block id c=>QV run id c
 | .loop c=>VK run c
 | .exit id=>λe=>some (.exit id,e)
 | .ret=>λe=>some (.ret,e)
noncomputable def UB (r:SR) (e:ES):Option V:=match r with
 | .tmp t=>some (e.T t)
 | .cell t sz=>match e.T t with
  | .ptr id i j=>match e.V id with
   | .arr _ es=>if i < es.length then nT sz (es.getD i []) j else none
   | _=>none
  | .aI e j=>nT sz e j
  | _=>none
noncomputable def y0:List SR->ES->Option (List V)
 | [],_=>some []
 | r :: l,e=>match UB r e,y0 l e with
  | some v,some vs=>some (v :: vs)
  | _,_=>none
noncomputable def oJ:List V->Nat->cX V->cX V
 | [],_,t=>t
 | v :: vs,i,t=>oJ vs (i+1) (t.put .any v deep i)
structure DF where
 code:DC
 res:List SR
 n:Nat
noncomputable def Xk (l:List SR) (r:ER):Option (V × ES):=match r with
 | some (.ret,e)=>(y0 l e).map λvs=>(zG vs,e)
 | some (.normal,e)=>(y0 l e).map λvs=>(zG vs,e)
 | _=>none
noncomputable def Xj (m:Nat) (r:Option (V × ES)):Option (V × ES):=match r with
 | some (v,e)=>some (v,⟨e.L,e.H,e.n,e.w.filter λid=>Nat.blt id m⟩)
 | none=>none
noncomputable def Xs (run:Ad) (F:DF) (vs:List V) (e:ES):Option (V × ES):=match Nat.ble vs.length F.n,Nat.ble F.n 8000 with
 | true,true=>Xj e.n (Xk F.res (run F.code ⟨oJ vs 0 .nil,e.H,e.n,[]⟩))
 | _,_=>none
abbrev Bv:=FuncId->List V->View->Option V
noncomputable def IT (P:Program) (tab:List (FuncId × DF)) (ext:Bv) (run:Ad) (g:FuncId) (vs:List V) (e:ES):Option (V × ES):=match ext g vs e.V with
 | some t=>some (t,⟨e.L,e.H,e.n,[]⟩)
 | none=>match tab.find? (λp=>Nat.beq p.1 g) with
  | some (_,F)=>Xs run F vs e
  | none=>none
noncomputable def KE (P:Program) (tab:List (FuncId × DF)) (ext:Bv):Nat->Ad
 | 0=>λ_ _=>none
 | k+1=>nX P (IT P tab ext (KE P tab ext k)) (KE P tab ext k)
def Ew (all:List Oper) (ls:List Nat):List (Nat × Nat) :=
 let b:=gD all []
 (ls.zipIdx.map λ(x,i)=>(ls.zipIdx.filter λ(y,k)=>decide (i < k) && !(ordered b i k || x == 0 || y == 0 || (decide (x<=1) && decide (y<=1)))).map λ(_,k)=>(i,k)).flatten
def Jj (P:Program) (n:Nat) (fz:List Nat) (ops:List Oper) (draw:Bool):Option DC:=match dV P n ops ⟨fz,false⟩ ops with
 | none=>none
 | some l=>if !(group l).all wu then none else
  if draw then (if nG ops then some (.region (Ew ops (l.map λs=>jT P false s.b)) (group l)) else none) else some (.region [] (group l))
def j7 (P:Program) (n:Nat) (fz:List Nat):Code->Option DC
 | .skip=>some .skip
 | .region _ ops draw=>Jj P n fz ops.toList draw
 | .seq x y=>match j7 P n fz x,j7 P n fz y with
  | some a,some b=>some (.seq a b)
  | _,_=>none
 | .cond c x y=>match j7 P n fz x,j7 P n fz y with
  | some a,some b=>some (.cond (SX.of c) a b)
  | _,_=>none
 | .block id c=>(j7 P n fz c).map (.block id)
 | .loop c=>(j7 P n fz c).map .loop
 | .exit id=>some (.exit id)
 | .ret=>some .ret
 | _=>none
abbrev Zh (l:List (Option Nat × SB)):DC:=.region [] [⟨none,l⟩]
def Kx (P:Program) (f:FuncId) (fz:List Nat):Option DF:=match P.funcs[f]? with
 | some fn=>match fn.body with
  | some c=>match j7 P fn.ntmps fz c,gE P fn.results.toList,dS P f with
   | some sc,some rs,true=>some ⟨sc,rs,fn.ntmps⟩
   | _,_,_=>none
  | none=>none
 | none=>none
end Gv

/-
  Part 6 of the proof: what the machine does and what the functions answer.
  Conditions: those that each lemma names.
-/
import Derived.Test.YtiophifnkakjgaaGreatSGzC2E
set_option linter.unusedSimpArgs false
set_option linter.unusedVariables false
set_option maxRecDepth 100000
set_option maxHeartbeats 20000000
namespace Gv
open Go Go.Proofs
structure Term where
 name:ByteArray
 level:Int
 assoc:Int
structure aF where
 left:Int
 right:List Int
 prec:Int
structure ai where
 ao:List Term
 af:List ByteArray
 rules:List aF
 start:Int
instance:Inhabited Term:=⟨⟨.empty,0,0⟩⟩
instance:Inhabited aF:=⟨⟨0,[],0⟩⟩
def c7 (t:Term):List V:=[gs t.name,gi t.level,gi t.assoc]
def aS (r:aF):List V:=[gi r.left,encI r.right,gi r.prec]
def encS (l:List ByteArray):V:=.aX (l.map λs=>[gs s])
def ah (g:ai):List V:=[.aX (g.ao.map c7),encS g.af,.aX (g.rules.map aS),gi g.start]
theorem iB {α:Type} (l:List α) (f:α->List V) (h:∀ x∈l,∀ v∈f x,Tree v):Tree (.aX (l.map f)):=by
 refine .aX _ λi j hi a=>?_
 simp only[OX] at hi
 have e:(l.map f).getD i []=f l[i]:=by simp[OH,hi]
 rw[e] at a ⊢
 have b:(f l[i]).getD j .any=(f l[i])[j]:=by simp[OH,a]
 rw[b]
 exact h _ (OW _) _ (OW _)
theorem cW (cs:List V) (h:∀ v∈cs,Tree v):Tree (.agg cs):=by
 refine .agg _ λi hi=>?_
 have a:cs.getD i .any=cs[i]:=by simp[OH,hi]
 rw[a];exact h _ (OW _)
theorem Am (l:List ByteArray):Tree (encS l):=iB _ _ λx _ v a=>by simp at a;subst a;exact .val _
theorem As (t:Term):∀ v∈c7 t,Tree v:=by intro v a;simp[c7] at a;rcases a with rfl | rfl | rfl <;> exact .val _
theorem ic (r:aF):∀ v∈aS r,Tree v:=by
 intro v a;simp[aS] at a;rcases a with rfl | rfl | rfl
 .exact .val _
 .exact dU _
 .exact .val _
theorem cy (g:ai):∀ v∈ah g,Tree v:=by
 intro v a;simp[ah] at a;rcases a with rfl | rfl | rfl | rfl
 .exact iB _ _ λx _=>As x
 .exact Am _
 .exact iB _ _ λx _=>ic x
 .exact .val _
def bm (x:Int):Prop:=-9223372036854775808<=x/\x<=9223372036854775807
structure ai.Ok (g:ai):Prop where
 ao:aG g.ao
 af:aG g.af
 rules:aG g.rules
 start:bm g.start
 term:∀ t∈g.ao,bm t.level/\bm t.assoc
 aZ:∀ r∈g.rules,bm r.left/\bm r.prec/\aG r.right/\∀ x∈r.right,bm x
def eO (g:ai) (s:Int):Bool:=if 0<=s then decide (s < g.ao.length) else decide (-1 - s < g.af.length)
def om:SF:=⟨ae [ab [cE 2 0,bb 4 false],ae [ab [aa 5 1,ax 6 .geq 5 0],bc 6 (ae [ab [aa 7 1,av 8 0 2,ak 9 8,aR 10 9,aV 11 .lss 7 10,aa 4 11],.ret])],ab [aa 12 1,((some 13),.op (.arith .sub (.val (.val (.int .i64 (-1)))) (.tmp 12))),av 14 1 2,ak 15 14,aR 16 15,aV 17 .lss 13 16,aa 4 17],.ret],
 [.tmp 4],18⟩
theorem sV:aE Tryz.prog 74 [2]=some om:=by kernel_rfl
theorem MG (g:ai) (s:Int) (a:bm s) (H:View):an Tryz.prog 74 [.agg (ah g),gi s] H λr H'=>r=gb (eO g s)/\H'=H:=by
 refine an.of mixed sV ?_
 obtain⟨h1,b⟩:=a
 simp(disch:=omega)only[↓wr,seval,wq,om,ah,encS]
 apply ag.dec<;>intro h
 .simp(disch:=omega)only[↓wr,seval,wq]
  simp[eO,show (0:Int)<=s from h]
 .simp(disch:=omega)only[↓wr,seval,wq]
  simp[eO,show ¬ (0:Int)<=s from h]
theorem G5 (g:ai) (s:Int) (b:bm s):ar Tryz.prog 74 [.agg (ah g),gi s] (gb (eO g s)) :=
 ar.of (by
  intro v a;simp at a
  rcases a with rfl | rfl
  .exact cW _ (cy g)
  .exact .val _) ((MG g s b _).mono λr H' h c _=>by rw[h.1];exact .tree _ (.val _))
def lr (g:ai):Bool:=decide (40 < g.ao.length) || decide (40 < g.af.length) || decide (60 < g.rules.length) || g.rules.any λr=>decide (20 < r.right.length)
def j6:SC :=
 ae [ae [ab [aa 20 3,av 21 2 1,ak 22 21,aR 23 22,aV 24 .lss 20 23],bH 24 (.exit 0)],.block 1 (ae [ab [av 27 2 1,ak 28 27,aa 29 3,aW 30 3 28 29,av 31 1 30,ak 32 31,aR 33 32,ax 34 .gtr 33 20],bc 34 (ae [ab [bb 2 true],.ret])]),ab [aa 25 3,ax 26 .add 25 1,aa 3 26]]
def lH:SF:=⟨ae [ab [cE 1 0,bb 2 false],ae [.region false [⟨none,[av 4 0 1,ak 5 4,aR 6 5,ax 7 .gtr 6 40,aa 8 7]⟩,⟨(some (8,false)),[av 9 1 1,ak 10 9,aR 11 10,ax 12 .gtr 11 40]⟩,⟨none,[bq 13 8 12,aa 14 13]⟩,⟨(some (14,false)),[av 15 2 1,ak 16 15,aR 17 16,ax 18 .gtr 17 60]⟩,⟨none,[bq 19 14 18]⟩],bc 19 (ae [ab [bb 2 true],.ret])],ae [ab [aN 3 0],bJ 0 j6],ab [bb 2 false],.ret],
 [.tmp 2],35⟩
theorem qC:aE Tryz.prog 14 [1]=some lH:=by kernel_rfl
theorem KQ (g:ai) (H:View):an Tryz.prog 14 [.agg (ah g)] H λr H'=>r=gb (lr g)/\H'=H:=by
 refine an.of mixed qC ?_
 simp(disch:=omega)only[↓wr,seval,wq,lH,ah,encS]
 apply ag.dec<;>intro h1
 .simp(disch:=omega)only[↓wr,seval,wq]
  simp[lr,show 40 < g.ao.length by omega]
 .simp(disch:=omega)only[↓wr,seval,wq]
  apply ag.dec<;>intro d
  .simp(disch:=omega)only[↓wr,seval,wq]
   simp[lr,show 40 < g.af.length by omega]
  .simp(disch:=omega)only[↓wr,seval,wq]
   apply ag.dec<;>intro f
   .simp(disch:=omega)only[↓wr,seval,wq]
    simp[lr,show 60 < g.rules.length by omega]
   .simp(disch:=omega)only[↓wr,seval,wq]
    refine aP.intro (λk T H'=>∃ i:Nat,i+k=g.rules.length/\(∀ r∈g.rules.take i,¬ 20 < r.right.length)/\T 1=.aC (ah g) 0/\T 3=gi i/\H'=H) g.rules.length ?_ ?_
    .exact⟨0,by omega,by simp,rfl,rfl,rfl⟩
    .rintro k T H' ⟨i,hk,hi,a,b,rfl⟩
     simp(disch:=omega)only[↓wr,seval,wq,j6,a,b,ah]
     apply ag.dec<;>intro h
     .have c:g.rules[i]?=some (g.rules[i]'(by omega)):=OI (by omega)
      simp(disch:=omega)only[↓wr,seval,wq,a,b,ah,aS,encI,ON,c,OU]
      apply ag.dec<;>intro j
      .simp(disch:=omega)only[↓wr,seval,wq]
       have:g.rules.any (λr=>decide (20 < r.right.length))=true:=by
        simp only[List.any_eq_true,OT]
        exact⟨g.rules[i]'(by omega),OW _,by omega⟩
       simp[lr,this]
      .simp(disch:=omega)only[↓wr,seval,wq,a,b]
       refine⟨k - 1,by omega,i+1,by omega,?_,rfl,rfl⟩
       intro r hr
       rw[Pe,c] at hr
       simp only[Option.toList_some,Pg,PU] at hr
       rcases hr with hr | rfl
       .exact hi r hr
       .omega
     .simp(disch:=omega)only[↓wr,seval,wq,a,b]
      have e:i=g.rules.length:=by omega
      rw[O8 (by omega)] at hi
      have:g.rules.any (λr=>decide (20 < r.right.length))=false:=by
       simp only[List.any_eq_false,OT];exact hi
      simp only[lr,this]
      simp;omega
def bw (l:List Int) (is:List Bool) (ao:Bool):Bool:=l.all λs=>if 0<=s then ao else is.getD (-1 - s).toNat false
def lK:SC :=
 ae [ae [ab [aa 8 7,aa 9 0,aR 10 9,aV 11 .lss 8 10],bH 11 (.exit 0)],.block 1 (ae [.region false [⟨none,[aa 14 0,aa 15 7,aW 16 1 14 15,ak 17 16,ax 18 .geq 17 0,aa 19 18]⟩,⟨(some (19,true)),[aa 20 2,bS 21 20]⟩,⟨none,[bV 22 19 21,aa 23 22]⟩,⟨(some (23,false)),[aa 24 0,aa 25 7,aW 26 1 24 25,ak 27 26,ax 28 .lss 27 0,aa 29 28]⟩,⟨(some (29,true)),[aa 30 1,aa 31 0,aa 32 7,aW 33 1 31 32,ak 34 33,((some 35),.op (.arith .sub (.val (.val (.int .i64 (-1)))) (.tmp 34))),aW 36 1 30 35,ak 37 36,bS 38 37]⟩,⟨(some (23,false)),[bV 39 29 38]⟩,⟨none,[bq 40 23 39]⟩],bc 40 (ae [ab [bb 6 false],.ret])]),ab [aa 12 7,ax 13 .add 12 1,aa 7 13]]
def nX:SF:=⟨ae [ab [bb 6 false],ae [ab [aN 7 0],bJ 0 lK],ab [bb 6 true],.ret],
 [.tmp 6],41⟩
theorem r8:aE Tryz.prog 95 []=some nX:=by kernel_rfl
theorem Mv (l:List Int) (is:List Bool) (t:Bool) (p:aG l) (q:∀ s∈l,bm s/\(s < 0->-1 - s < is.length)) (H:View) :
  an Tryz.prog 95 [encI l,bh is,gb t] H λr H'=>r=gb (bw l is t)/\H'=H:=by
 refine an.of mixed r8 ?_
 unfold aG at p
 simp(disch:=omega)only[↓wr,seval,wq,nX]
 refine aP.intro (λk T H'=>∃ i:Nat,i+k=l.length/\bw (l.take i) is t=true/\T 0=encI l/\T 1=bh is/\T 2=gb t/\T 7=gi i/\H'=H) l.length ?_ ?_
 .exact⟨0,by omega,by simp[bw],rfl,rfl,rfl,rfl,rfl⟩
 .rintro k T H' ⟨i,hk,hi,d,h1,f,g,rfl⟩
  simp(disch:=omega)only[↓wr,seval,wq,lK,d,h1,f,g,encI]
  apply ag.dec<;>intro u
  .have h:l[i]?=some (l[i]'(by omega)):=OI (by omega)
   have hm:l[i]'(by omega)∈l:=OW _
   generalize l[i]'(by omega)=s at h hm
   obtain⟨⟨v,w⟩,x⟩:=q s hm
   have a:bw (l.take (i+1)) is t=(if 0<=s then t else is.getD (-1 - s).toNat false):=by
    rw[Pe,h]
    simp only[bw,Option.toList_some,List.all_append,PH,List.all_nil,Bool.and_true] at hi ⊢
    rw[hi,Pz]
   have c:(if 0<=s then t else is.getD (-1 - s).toNat false)=false->bw l is t=false:=by
    intro j
    simp only[bw,QA]
    exact⟨s,hm,by simpa using j⟩
   simp(disch:=omega)only[↓wr,seval,wq,d,h1,f,g,encI,ON,h,OU]
   apply ag.dec<;>intro n
   .rw[OM (show 0<=s from n)] at a c
    cases t with
    | true =>
     simp(disch:=omega)only[↓wr,seval,wq,d,h1,f,g,encI,ON,h,OU]
     refine ag.dec (λm=>absurd m (by omega)) (λ_=>?_)
     simp(disch:=omega)only[↓wr,seval,wq,d,h1,f,g,encI,bh,ON,h,OU]
     exact⟨k - 1,by omega,i+1,by omega,a,rfl⟩
    | false =>
     simp(disch:=omega)only[↓wr,seval,wq,d,h1,f,g,encI,ON,h,OU]
     rw[c rfl]
   .rw[OK (show ¬ 0<=s from n)] at a c
    simp(disch:=omega)only[↓wr,seval,wq,d,h1,f,g,encI,ON,h,OU]
    refine ag.dec (λm=>?_) (λm=>absurd m (by omega))
    have j:is[(-1 - s).toNat]?=some (is[(-1 - s).toNat]'(by omega)):=OI (by omega)
    have o:is.getD (-1 - s).toNat false=is[(-1 - s).toNat]'(by omega):=by simp[OH,j]
    rw[o] at a c
    generalize is[(-1 - s).toNat]'(by omega)=b at j a c
    simp(disch:=omega)only[↓wr,seval,wq,d,h1,f,g,encI,bh,ON,h,j,OU]
    cases b with
    | true =>
     simp(disch:=omega)only[↓wr,seval,wq,d,h1,f,g,encI,bh,ON,h,j,OU]
     exact⟨k - 1,by omega,i+1,by omega,a,rfl⟩
    | false =>
     simp(disch:=omega)only[↓wr,seval,wq,d,h1,f,g,encI,bh,ON,h,j,OU]
     rw[c rfl]
  .simp(disch:=omega)only[↓wr,seval,wq,d,h1,f,g]
   have e:i=l.length:=by omega
   rw[O8 (by omega)] at hi
   rw[hi]
abbrev gy (x:Int):V:=.val (.int .u8 x)
def rO (c:Int):Bool:=(decide (97<=c) && decide (c<=122)) || (decide (65<=c) && decide (c<=90)) || c == 95
def ll (c:Int):Bool:=rO c || (decide (48<=c) && decide (c<=57)) || c == 46
def lO:SF:=⟨ae [ab [bb 2 false],.region false [⟨none,[aa 3 0,((some 4),.op (.arith .geq (.tmp 3) (.val (.val (.int .u8 97))))),aa 5 4]⟩,⟨(some (5,true)),[aa 6 0,((some 7),.op (.arith .leq (.tmp 6) (.val (.val (.int .u8 122)))))]⟩,⟨none,[bV 8 5 7,aa 9 8]⟩,⟨(some (9,false)),[aa 10 0,((some 11),.op (.arith .geq (.tmp 10) (.val (.val (.int .u8 65))))),aa 12 11]⟩,⟨(some (12,true)),[aa 13 0,((some 14),.op (.arith .leq (.tmp 13) (.val (.val (.int .u8 90)))))]⟩,⟨(some (9,false)),[bV 15 12 14]⟩,⟨none,[bq 16 9 15,aa 17 16]⟩,⟨(some (17,false)),[aa 18 0,((some 19),.op (.arith .eql (.tmp 18) (.val (.val (.int .u8 95)))))]⟩,⟨none,[bq 20 17 19,aa 2 20]⟩],.ret],
 [.tmp 2],21⟩
theorem qA:aE Tryz.prog 233 []=some lO:=by kernel_rfl
def lM:SF:=⟨ae [ab [bb 2 false],.region false [⟨none,[aa 3 0,aJ 4 233 [3],aa 5 4]⟩,⟨(some (5,false)),[aa 6 0,((some 7),.op (.arith .geq (.tmp 6) (.val (.val (.int .u8 48))))),aa 8 7]⟩,⟨(some (8,true)),[aa 9 0,((some 10),.op (.arith .leq (.tmp 9) (.val (.val (.int .u8 57)))))]⟩,⟨(some (5,false)),[bV 11 8 10]⟩,⟨none,[bq 12 5 11,aa 13 12]⟩,⟨(some (13,false)),[aa 14 0,((some 15),.op (.arith .eql (.tmp 14) (.val (.val (.int .u8 46)))))]⟩,⟨none,[bq 16 13 15,aa 2 16]⟩],.ret],
 [.tmp 2],17⟩
theorem qF:aE Tryz.prog 234 []=some lM:=by kernel_rfl
theorem Kw (c:Int) (H:View):an Tryz.prog 233 [gy c] H λr H'=>r=gb (rO c)/\H'=H:=by
 refine an.of mixed qA ?_
 repeat' (first | ((first|apply ag.dec|apply ag.eq|apply ag.ne|apply ag.split)<;>intro)|(simp(disch:=omega)only[↓wr,seval,wq,lO]))
 all_goals (congr 2;simp only[rO];grind)
theorem Bu (c:Int):ar Tryz.prog 233 [gy c] (gb (rO c)) :=
 ar.of (by intro v a;simp at a;subst a;exact .val _) ((Kw c _).mono λr H' h b _=>by rw[h.1];exact .tree _ (.val _))
theorem KK (c:Int) (H:View):an Tryz.prog 234 [gy c] H λr H'=>r=gb (ll c)/\H'=H:=by
 refine an.of mixed qF ?_
 repeat' (first | ((first|apply ag.dec|apply ag.eq|apply ag.ne|apply ag.split)<;>intro)|(simp(disch:=omega)only[↓wr,seval,wq,lM]))
 refine aj.pure (Bu c) ?_
 repeat' (first | ((first|apply ag.dec|apply ag.eq|apply ag.ne|apply ag.split)<;>intro)|(simp(disch:=omega)only[↓wr,seval,wq]))
 all_goals (congr 2;simp only[ll];grind)
theorem JZ (c:Int):ar Tryz.prog 234 [gy c] (gb (ll c)) :=
 ar.of (by intro v a;simp at a;subst a;exact .val _) ((KK c _).mono λr H' h b _=>by rw[h.1];exact .tree _ (.val _))
def ew (l:List Int):Bool:=decide (0 < l.length) && decide (l.length<=20) && (match l with | c :: _=>rO c | []=>false) && l.all ll
def kT:SC :=
 ae [ae [ab [aa 18 3,aa 19 0,((some 20),.op (.mf (.tmp 19))),aV 21 .lss 18 20],bH 21 (.exit 0)],.block 1 (ae [ab [aa 24 0,aa 25 3,((some 26),.op (.ff (.tmp 24) (.tmp 25))),aJ 27 234 [26],bS 28 27],bc 28 (ae [ab [bb 2 false],.ret])]),ab [aa 22 3,ax 23 .add 22 1,aa 3 23]]
def nF:SF:=⟨ae [ab [bb 2 false],ae [.region false [⟨none,[aa 4 0,((some 5),.op (.mf (.tmp 4))),ax 6 .eql 5 0,aa 7 6]⟩,⟨(some (7,false)),[aa 8 0,((some 9),.op (.mf (.tmp 8))),ax 10 .gtr 9 20]⟩,⟨none,[bq 11 7 10,aa 12 11]⟩,⟨(some (12,false)),[aa 13 0,((some 14),.op (.ff (.tmp 13) (.val (.val (.int .i64 0))))),aJ 15 233 [14],bS 16 15]⟩,⟨none,[bq 17 12 16]⟩],bc 17 (ae [ab [bb 2 false],.ret])],ae [ab [aN 3 0],bJ 0 kT],ab [bb 2 true],.ret],
 [.tmp 2],29⟩
theorem rR:aE Tryz.prog 172 []=some nF:=by kernel_rfl
theorem IG (s:ByteArray) (H:View):an Tryz.prog 172 [gs s] H λr H'=>r=gb (ew (dL s))/\H'=H:=by
 refine an.of mixed rR ?_
 repeat' (first | ((first|apply ag.dec|apply ag.eq|apply ag.ne|apply ag.split)<;>intro)|(simp(disch:=omega)only[↓wr,seval,wq,nF,c6]))
 .rename_i h
  congr 2;simp[ew,show (dL s).length=0 by omega]
 .rename_i h
  congr 2;simp[ew,show ¬ (dL s).length<=20 by omega]
 .rename_i h1 g
  cases a:dL s with
  | nil=>simp[a] at h1
  | cons c l =>
   repeat' (first | ((first|apply ag.dec|apply ag.eq|apply ag.ne|apply ag.split)<;>intro)|(simp(disch:=omega)only[↓wr,seval,wq,a,O4,c6]))
   refine aj.pure (Bu c) ?_
   repeat' (first | ((first|apply ag.dec|apply ag.eq|apply ag.ne|apply ag.split)<;>intro)|(simp(disch:=omega)only[↓wr,seval,wq,a,O4,c6]))
   .rename_i j
    refine aP.intro (λk T H'=>∃ i:Nat,i+k=(c :: l).length/\((c :: l).take i).all ll=true/\T 0=gs s/\T 3=gi i/\H'=H) (c :: l).length ?_ ?_
    .exact⟨0,by omega,by simp,rfl,rfl,rfl⟩
    .rintro k T H' ⟨i,hk,hi,b,e,rfl⟩
     rw[a] at h1 g
     simp(disch:=omega)only[↓wr,seval,wq,kT,b,e,c6,a]
     apply ag.dec<;>intro m
     .simp only[OY] at m hk g
      have f:(c :: l)[i]?=some ((c :: l)[i]'(by simp;omega)):=OI (by simp;omega)
      have hm:(c :: l)[i]'(by simp;omega)∈c :: l:=OW _
      generalize (c :: l)[i]'(by simp;omega)=d at f hm
      simp(disch:=omega)only[↓wr,seval,wq,b,e,c6,a,f]
      refine aj.pure (JZ d) ?_
      repeat' (first | ((first|apply ag.dec|apply ag.eq|apply ag.ne|apply ag.split)<;>intro)|(simp(disch:=omega)only[↓wr,seval,wq,b,e,c6,a,f]))
      .rename_i n
       refine⟨k - 1,by omega,i+1,by omega,?_,rfl⟩
       rw[Pe,f]
       simp only[Option.toList_some,List.all_append,hi,PH,n,List.all_nil,Bool.and_self]
      .rename_i n
       congr 2
       have:(c :: l).all ll=false:=by
        rw[QA];exact⟨d,hm,by simp[n]⟩
       simp only[ew,this,Bool.and_false]
     .simp(disch:=omega)only[↓wr,seval,wq,b,e]
      simp only[OY] at m hk g
      rw[O8 (by simp;omega)] at hi
      congr 2
      simp only[ew,hi,OY]
      simp[j];omega
   .rename_i j
    congr 2;simp[ew,j]
def j3:List Int->Bool
 | [a,b,c]=>a == 39 && c == 39 && decide (32<=b) && decide (b<=126) && b != 39 && b != 92
 | [a,b,c,d]=>a == 39 && d == 39 && b == 92 && (c == 110 || c == 116 || c == 92 || c == 39)
 | _=>false
theorem Kt {l:List Int} (a:l.length≠3) (b:l.length≠4):j3 l=false:=by
 match l,a,b with
 | [],_,_=>rfl
 | [_],_,_=>rfl
 | [_,_],_,_=>rfl
 | [_,_,_],a,_=>exact absurd rfl a
 | [_,_,_,_],_,b=>exact absurd rfl b
 | _ :: _ :: _ :: _ :: _ :: _,_,_=>rfl
theorem N8 {α:Type} {l:List α} (h:l.length=3):∃ a b c,l=[a,b,c]:=by
 match l,h with
 | [a,b,c],_=>exact⟨a,b,c,rfl⟩
theorem N9 {α:Type} {l:List α} (h:l.length=4):∃ a b c d,l=[a,b,c,d]:=by
 match l,h with
 | [a,b,c,d],_=>exact⟨a,b,c,d,rfl⟩
def ko:SF:=⟨ae [ab [bb 2 false],ae [ab [aa 3 0,((some 4),.op (.mf (.tmp 3))),ax 5 .eql 4 3],bc 5 (ae [.region false [⟨none,[aa 6 0,((some 7),.op (.ff (.tmp 6) (.val (.val (.int .i64 0))))),((some 8),.op (.arith .eql (.tmp 7) (.val (.val (.int .u8 39))))),aa 9 8]⟩,⟨(some (9,true)),[aa 10 0,((some 11),.op (.ff (.tmp 10) (.val (.val (.int .i64 2))))),((some 12),.op (.arith .eql (.tmp 11) (.val (.val (.int .u8 39)))))]⟩,⟨none,[bV 13 9 12,aa 14 13]⟩,⟨(some (14,true)),[aa 15 0,((some 16),.op (.ff (.tmp 15) (.val (.val (.int .i64 1))))),((some 17),.op (.arith .geq (.tmp 16) (.val (.val (.int .u8 32)))))]⟩,⟨none,[bV 18 14 17,aa 19 18]⟩,⟨(some (19,true)),[aa 20 0,((some 21),.op (.ff (.tmp 20) (.val (.val (.int .i64 1))))),((some 22),.op (.arith .leq (.tmp 21) (.val (.val (.int .u8 126)))))]⟩,⟨none,[bV 23 19 22,aa 24 23]⟩,⟨(some (24,true)),[aa 25 0,((some 26),.op (.ff (.tmp 25) (.val (.val (.int .i64 1))))),((some 27),.op (.arith .neq (.tmp 26) (.val (.val (.int .u8 39)))))]⟩,⟨none,[bV 28 24 27,aa 29 28]⟩,⟨(some (29,true)),[aa 30 0,((some 31),.op (.ff (.tmp 30) (.val (.val (.int .i64 1))))),((some 32),.op (.arith .neq (.tmp 31) (.val (.val (.int .u8 92)))))]⟩,⟨none,[bV 33 29 32,aa 2 33]⟩],.ret])],.region false [⟨none,[aa 34 0,((some 35),.op (.mf (.tmp 34))),ax 36 .eql 35 4,aa 37 36]⟩,⟨(some (37,true)),[aa 38 0,((some 39),.op (.ff (.tmp 38) (.val (.val (.int .i64 0))))),((some 40),.op (.arith .eql (.tmp 39) (.val (.val (.int .u8 39)))))]⟩,⟨none,[bV 41 37 40,aa 42 41]⟩,⟨(some (42,true)),[aa 43 0,((some 44),.op (.ff (.tmp 43) (.val (.val (.int .i64 3))))),((some 45),.op (.arith .eql (.tmp 44) (.val (.val (.int .u8 39)))))]⟩,⟨none,[bV 46 42 45,aa 47 46]⟩,⟨(some (47,true)),[aa 48 0,((some 49),.op (.ff (.tmp 48) (.val (.val (.int .i64 1))))),((some 50),.op (.arith .eql (.tmp 49) (.val (.val (.int .u8 92)))))]⟩,⟨none,[bV 51 47 50,aa 52 51]⟩,⟨(some (52,true)),[aa 53 0,((some 54),.op (.ff (.tmp 53) (.val (.val (.int .i64 2))))),((some 55),.op (.arith .eql (.tmp 54) (.val (.val (.int .u8 110))))),aa 56 55]⟩,⟨(some (56,false)),[aa 57 0,((some 58),.op (.ff (.tmp 57) (.val (.val (.int .i64 2))))),((some 59),.op (.arith .eql (.tmp 58) (.val (.val (.int .u8 116)))))]⟩,⟨(some (52,true)),[bq 60 56 59,aa 61 60]⟩,⟨(some (61,false)),[aa 62 0,((some 63),.op (.ff (.tmp 62) (.val (.val (.int .i64 2))))),((some 64),.op (.arith .eql (.tmp 63) (.val (.val (.int .u8 92)))))]⟩,⟨(some (52,true)),[bq 65 61 64,aa 66 65]⟩,⟨(some (66,false)),[aa 67 0,((some 68),.op (.ff (.tmp 67) (.val (.val (.int .i64 2))))),((some 69),.op (.arith .eql (.tmp 68) (.val (.val (.int .u8 39)))))]⟩,⟨(some (52,true)),[bq 70 66 69]⟩,⟨none,[bV 71 52 70,aa 2 71]⟩],.ret],
 [.tmp 2],72⟩
theorem o7:aE Tryz.prog 232 []=some ko:=by kernel_rfl
def lC:SF:=⟨ae [ab [bb 2 false],.region false [⟨none,[aa 3 0,aJ 4 172 [3],aa 5 4]⟩,⟨(some (5,false)),[aa 6 0,aJ 7 232 [6]]⟩,⟨none,[bq 8 5 7,aa 2 8]⟩],.ret],
 [.tmp 2],9⟩
theorem qu:aE Tryz.prog 169 []=some lC:=by kernel_rfl
theorem Kl (s:ByteArray) (H:View):an Tryz.prog 232 [gs s] H λr H'=>r=gb (j3 (dL s))/\H'=H:=by
 refine an.of mixed o7 ?_
 simp(disch:=omega)only[↓wr,seval,wq,ko,c6]
 apply ag.eq<;>intro h
 .obtain⟨a,b,c,e⟩:=N8 (l:=dL s) (by omega)
  repeat' (first | ((first|apply ag.dec|apply ag.eq|apply ag.ne|apply ag.split)<;>intro)|(simp(disch:=omega)only[↓wr,seval,wq,e,O4,Pq]))
  all_goals (congr 2;simp only[j3];grind)
 .simp(disch:=omega)only[↓wr,seval,wq,c6]
  apply ag.eq<;>intro f
  .obtain⟨a,b,c,d,e⟩:=N9 (l:=dL s) (by omega)
   repeat' (first | ((first|apply ag.dec|apply ag.eq|apply ag.ne|apply ag.split)<;>intro)|(simp(disch:=omega)only[↓wr,seval,wq,e,O4,Pq]))
   all_goals (congr 2;simp only[j3];grind)
  .repeat' (first | ((first|apply ag.dec|apply ag.eq|apply ag.ne|apply ag.split)<;>intro)|(simp(disch:=omega)only[↓wr,seval,wq,c6]))
   rw[Kt (by omega) (by omega)]
theorem mb (s:ByteArray):∀ v∈[gs s],Tree v:=by intro v a;simp at a;subst a;exact .val _
theorem Aa (s:ByteArray):ar Tryz.prog 172 [gs s] (gb (ew (dL s))) :=
 ar.of (mb s) ((IG s _).mono λr H' h a _=>by rw[h.1];exact .tree _ (.val _))
theorem Ke (s:ByteArray):ar Tryz.prog 232 [gs s] (gb (j3 (dL s))) :=
 ar.of (mb s) ((Kl s _).mono λr H' h a _=>by rw[h.1];exact .tree _ (.val _))
def nC (l:List Int):Bool:=ew l || j3 l
theorem FU (s:ByteArray) (H:View):an Tryz.prog 169 [gs s] H λr H'=>r=gb (nC (dL s))/\H'=H:=by
 refine an.of mixed qu ?_
 simp(disch:=omega)only[↓wr,seval,wq,lC]
 refine aj.pure (Aa s) ?_
 repeat' (first | ((first|apply ag.dec|apply ag.eq|apply ag.ne|apply ag.split)<;>intro)|(simp(disch:=omega)only[↓wr,seval,wq]))
 .rename_i h;simp[nC,h]
 .rename_i h
  refine aj.pure (Ke s) ?_
  repeat' (first | ((first|apply ag.dec|apply ag.eq|apply ag.ne|apply ag.split)<;>intro)|(simp(disch:=omega)only[↓wr,seval,wq]))
  simp[nC,h]
theorem FN (s:ByteArray):ar Tryz.prog 169 [gs s] (gb (nC (dL s))) :=
 ar.of (mb s) ((FU s _).mono λr H' h a _=>by rw[h.1];exact .tree _ (.val _))
def lg (s:ByteArray):List ByteArray->Int->Int
 | [],_=>-1
 | x :: l,i=>if gD x s=true then i else lg s l (i+1)
def jL (g:ai) (s:ByteArray):Int:=lg s (g.ao.map Term.name) 0
def tM (g:ai) (s:ByteArray):Int:=lg s g.af 0
theorem ef {α:Type} {l:List α} {i:Nat} (h:i < l.length):l.drop i=l[i] :: l.drop (i+1):=Qa h
theorem A8 (g:ai) (s:ByteArray):∀ v∈[V.agg (ah g),gs s],Tree v:=by
 intro v a;simp at a
 rcases a with rfl | rfl
 .exact cW _ (cy g)
 .exact .val _
theorem dD (g:ai):∀ v∈[V.agg (ah g)],Tree v:=by intro v a;simp at a;subst a;exact cW _ (cy g)
theorem CO (g:ai) (x:Int):∀ v∈[V.agg (ah g),gi x],Tree v:=by
 intro v a;simp at a
 rcases a with rfl | rfl
 .exact cW _ (cy g)
 .exact .val _
theorem ar.val {P:Program} {f:FuncId} {vs:List V} {x:Value} (a:∀ v∈vs,Tree v) (h:∀ H,an P f vs H λr _=>r=.val x):ar P f vs (.val x) :=
 ar.of a ((h _).mono λr H' e b _=>by rw[e];exact .tree _ (.val _))
def kR:SC :=
 ae [ae [ab [aa 6 5,av 7 0 2,ak 8 7,aR 9 8,aV 10 .lss 6 9],bH 10 (.exit 0)],.block 1 (ae [ab [av 13 0 2,ak 14 13,aa 15 5,aW 16 3 14 15,av 17 0 16,ak 18 17,aa 19 1,((some 20),.op (.tN .eql (.tmp 18) (.tmp 19)))],bc 20 (ae [ab [aa 21 5,aa 4 21],.ret])]),ab [aa 11 5,ax 12 .add 11 1,aa 5 12]]
def nE:SF:=⟨ae [ab [cE 2 0,aN 4 0],ae [ab [aN 5 0],bJ 0 kR],ab [aN 4 (-1)],.ret],
 [.tmp 4],22⟩
theorem rD:aE Tryz.prog 170 [2]=some nE:=by kernel_rfl
def lX:SC :=
 ae [ae [ab [aa 6 5,av 7 1 2,ak 8 7,aR 9 8,aV 10 .lss 6 9],bH 10 (.exit 0)],.block 1 (ae [ab [av 13 1 2,ak 14 13,aa 15 5,aW 16 1 14 15,ak 17 16,aa 18 1,((some 19),.op (.tN .eql (.tmp 17) (.tmp 18)))],bc 19 (ae [ab [aa 20 5,aa 4 20],.ret])]),ab [aa 11 5,ax 12 .add 11 1,aa 5 12]]
def nV:SF:=⟨ae [ab [cE 2 0,aN 4 0],ae [ab [aN 5 0],bJ 0 lX],ab [aN 4 (-1)],.ret],
 [.tmp 4],21⟩
theorem sU:aE Tryz.prog 150 [2]=some nV:=by kernel_rfl
def kD:SC :=
 ae [ae [ab [aa 8 6,av 9 0 2,ak 10 9,aR 11 10,aV 12 .lss 8 11],bH 12 (.exit 0)],.block 1 (ae [.region false [⟨none,[av 15 0 2,ak 16 15,aa 17 6,aW 18 3 16 17,ba 19 3 18,((some 7),.op (.alloc [(.val (.string ⟨#[]⟩)),(.val (.int .i64 0)),(.val (.int .i64 0))])),cb 3 7 19]⟩],ae [ab [av 20 1 7,ak 21 20,aa 22 1,aV 23 .neq 21 22],bc 23 (.exit 1)],ae [.region false [⟨none,[aa 24 5,ax 25 .neq 24 0,aa 26 25]⟩,⟨(some (26,true)),[aa 27 5,av 28 2 7,ak 29 28,aV 30 .neq 27 29]⟩,⟨none,[bV 31 26 30]⟩],bc 31 (ae [ab [bb 4 false],.ret])],ab [av 32 2 7,ak 33 32,aa 5 33]]),ab [aa 13 6,ax 14 .add 13 1,aa 6 14]]
def lT:SF:=⟨ae [ab [cE 2 0,bb 4 false],ab [aN 5 0],ae [ab [aN 6 0],bJ 0 kD],ab [aa 34 5,ax 35 .neq 34 0,aa 4 35],.ret],
 [.tmp 4],36⟩
theorem qH:aE Tryz.prog 171 [2]=some lT:=by kernel_rfl
theorem HO (g:ai) (e:g.Ok) (s:ByteArray) (H:View):an Tryz.prog 170 [.agg (ah g),gs s] H λr _=>r=gi (jL g s):=by
 refine an.of mixed rD ?_
 have h:g.ao.length < 4611686018427387904:=e.ao
 simp(disch:=omega)only[↓wr,seval,wq,nE,ah,encS]
 refine aP.intro (λk T _=>∃ i:Nat,i+k=g.ao.length/\lg s ((g.ao.drop i).map Term.name) i=jL g s/\T 1=gs s/\T 2=.aC (ah g) 0/\T 5=gi i) g.ao.length ?_ ?_
 .exact⟨0,by omega,rfl,rfl,rfl,rfl⟩
 .rintro k T H' ⟨i,hk,hi,h1,a,b⟩
  simp(disch:=omega)only[↓wr,seval,wq,kR,h1,a,b,ah]
  apply ag.dec<;>intro f
  .have c:g.ao[i]?=some (g.ao[i]'(by omega)):=OI (by omega)
   rw[ef (show i < g.ao.length by omega)] at hi
   generalize g.ao[i]'(by omega)=t at c hi
   simp only[Pa,lg] at hi
   simp(disch:=omega)only[↓wr,seval,wq,h1,a,b,ah,c7,ON,c,OU]
   apply ag.split<;>intro d
   .rw[OM d] at hi
    simp(disch:=omega)only[↓wr,seval,wq,h1,a,b]
    rw[hi]
   .rw[d,OK (by simp)] at hi
    simp(disch:=omega)only[↓wr,seval,wq,h1,a,b]
    exact⟨k - 1,by omega,i+1,by omega,by push_cast;exact hi,rfl,rfl⟩
  .rw[Po (by omega)] at hi
   simp only[PQ,lg] at hi
   simp(disch:=omega)only[↓wr,seval,wq,h1,a,b]
   rw[hi]
theorem Au (g:ai) (a:g.Ok) (s:ByteArray):ar Tryz.prog 170 [.agg (ah g),gs s] (gi (jL g s)):=ar.val (A8 g s) (HO g a s)
theorem KP (g:ai) (e:g.Ok) (s:ByteArray) (H:View):an Tryz.prog 150 [.agg (ah g),gs s] H λr _=>r=gi (tM g s):=by
 refine an.of mixed sU ?_
 have h:g.af.length < 4611686018427387904:=e.af
 simp(disch:=omega)only[↓wr,seval,wq,nV,ah,encS]
 refine aP.intro (λk T _=>∃ i:Nat,i+k=g.af.length/\lg s (g.af.drop i) i=tM g s/\T 1=gs s/\T 2=.aC (ah g) 0/\T 5=gi i) g.af.length ?_ ?_
 .exact⟨0,by omega,rfl,rfl,rfl,rfl⟩
 .rintro k T H' ⟨i,hk,hi,h1,a,b⟩
  simp(disch:=omega)only[↓wr,seval,wq,lX,h1,a,b,ah,encS]
  apply ag.dec<;>intro f
  .have c:g.af[i]?=some (g.af[i]'(by omega)):=OI (by omega)
   rw[ef (show i < g.af.length by omega)] at hi
   generalize g.af[i]'(by omega)=t at c hi
   simp only[Pa,lg] at hi
   simp(disch:=omega)only[↓wr,seval,wq,h1,a,b,ah,encS,ON,c,OU]
   apply ag.split<;>intro d
   .rw[OM d] at hi
    simp(disch:=omega)only[↓wr,seval,wq,h1,a,b]
    rw[hi]
   .rw[d,OK (by simp)] at hi
    simp(disch:=omega)only[↓wr,seval,wq,h1,a,b]
    exact⟨k - 1,by omega,i+1,by omega,by push_cast;exact hi,rfl,rfl⟩
  .rw[Po (by omega)] at hi
   simp only[PQ,lg] at hi
   simp(disch:=omega)only[↓wr,seval,wq,h1,a,b]
   rw[hi]
theorem KL (g:ai) (a:g.Ok) (s:ByteArray):ar Tryz.prog 150 [.agg (ah g),gs s] (gi (tM g s)):=ar.val (A8 g s) (KP g a s)
def gh (n:Int):List Term->Int->Option Int
 | [],way=>some way
 | t :: r,way=>if t.level=n then (if way≠0/\way≠t.assoc then none else gh n r t.assoc) else gh n r way
def eR (l:List Term) (n:Int):Bool:=match gh n l 0 with
 | some w=>w != 0
 | none=>false
theorem F3 (g:ai) (l:g.Ok) (n:Int) (H:View):an Tryz.prog 171 [.agg (ah g),gi n] H λr _=>r=gb (eR g.ao n):=by
 refine an.of mixed qH ?_
 have p:g.ao.length < 4611686018427387904:=l.ao
 simp(disch:=omega)only[↓wr,seval,wq,lT,ah,encS]
 refine aP.intro (λk T _=>∃ (i:Nat) (w:Int),i+k=g.ao.length/\gh n (g.ao.drop i) w=gh n g.ao 0/\T 1=gi n/\T 2=.aC (ah g) 0/\T 5=gi w/\T 6=gi i) g.ao.length ?_ ?_
 .exact⟨0,0,by omega,rfl,rfl,rfl,rfl,rfl⟩
 .rintro k T H' ⟨i,w,hk,hi,h1,c,d,f⟩
  simp(disch:=omega)only[↓wr,seval,wq,kD,h1,c,d,f,ah]
  apply ag.dec<;>intro o
  .have h:g.ao[i]?=some (g.ao[i]'(by omega)):=OI (by omega)
   rw[ef (show i < g.ao.length by omega)] at hi
   generalize g.ao[i]'(by omega)=t at h hi
   simp only[gh] at hi
   simp(disch:=omega)only[↓wr,seval,wq,h1,c,d,f,ah,c7,ON,h,OU]
   intro m hm
   try simp(disch:=omega)only[↓wr,seval,wq,h1,c,d,f]
   apply ag.ne<;>intro j
   .rw[OK j] at hi
    simp(disch:=omega)only[↓wr,seval,wq,h1,c,d,f]
    exact⟨k - 1,by omega,i+1,w,by omega,hi,by first | rfl | exact⟨rfl,rfl⟩ | exact⟨rfl,rfl,rfl⟩⟩
   .rw[OM j] at hi
    repeat' (first | ((first|apply ag.dec|apply ag.eq|apply ag.ne|apply ag.split)<;>intro)|(simp(disch:=omega)only[↓wr,seval,wq,h1,c,d,f]))
    .rename_i a b
     rw[OM ⟨a,b⟩] at hi
     simp only[eR,<-hi]
    .rename_i a b
     rw[OK (λe=>e.2 b)] at hi
     exact⟨k - 1,by omega,i+1,_,by omega,hi,by first | rfl | exact⟨rfl,rfl⟩ | exact⟨rfl,rfl,rfl⟩⟩
    .rename_i a
     rw[OK (λe=>e.1 a)] at hi
     exact⟨k - 1,by omega,i+1,_,by omega,hi,by first | rfl | exact⟨rfl,rfl⟩ | exact⟨rfl,rfl,rfl⟩⟩
  .rw[Po (by omega)] at hi
   simp only[gh] at hi
   simp(disch:=omega)only[↓wr,seval,wq,h1,c,d,f]
   simp only[eR,<-hi]
theorem GC (g:ai) (a:g.Ok) (n:Int):ar Tryz.prog 171 [.agg (ah g),gi n] (gb (eR g.ao n)):=ar.val (CO g n) (F3 g a n)
def oE (g:ai) (t:Term):Bool:=(List.range t.level.toNat).all λk=>eR g.ao ((k:Int)+1)
def gX (g:ai) (i:Int) (t:Term):Bool :=
 nC (dL t.name) && (jL g t.name == i) && decide (0<=t.level) && decide (t.level<=24) && decide (0<=t.assoc) && decide (t.assoc<=3) && ((t.level == 0) == (t.assoc == 0)) && oE g t
def gJ (g:ai):List Term->Int->Bool
 | [],_=>true
 | t :: r,i=>gX g i t && gJ g r (i+1)
def gN (g:ai):Bool:=decide (g.ao.length<=24) && gJ g g.ao 0
def kf:SC :=
 ae [ae [ab [aa 63 5,av 64 1 4,ak 65 64,aV 66 .leq 63 65],bH 66 (.exit 2)],.block 3 (ae [ab [ba 69 4 1,aa 70 5,aJ 71 171 [69,70],bS 72 71],bc 72 (ae [ab [bb 2 false],.ret])]),ab [aa 67 5,ax 68 .add 67 1,aa 5 68]]
def kd:SC :=
 ae [ae [ab [aa 10 3,av 11 0 1,ak 12 11,aR 13 12,aV 14 .lss 10 13],bH 14 (.exit 0)],.block 1 (ae [.region false [⟨none,[av 17 0 1,ak 18 17,aa 19 3,aW 20 3 18 19,ba 21 3 20,((some 4),.op (.alloc [(.val (.string ⟨#[]⟩)),(.val (.int .i64 0)),(.val (.int .i64 0))])),cb 3 4 21]⟩],ae [.region false [⟨none,[av 22 0 4,ak 23 22,aJ 24 169 [23],bS 25 24,aa 26 25]⟩,⟨(some (26,false)),[ba 27 4 1,av 28 0 4,ak 29 28,aJ 30 170 [27,29],aa 31 3,aV 32 .neq 30 31]⟩,⟨none,[bq 33 26 32,aa 34 33]⟩,⟨(some (34,false)),[av 35 1 4,ak 36 35,ax 37 .lss 36 0]⟩,⟨none,[bq 38 34 37,aa 39 38]⟩,⟨(some (39,false)),[av 40 1 4,ak 41 40,ax 42 .gtr 41 24]⟩,⟨none,[bq 43 39 42,aa 44 43]⟩,⟨(some (44,false)),[av 45 2 4,ak 46 45,ax 47 .lss 46 0]⟩,⟨none,[bq 48 44 47,aa 49 48]⟩,⟨(some (49,false)),[av 50 2 4,ak 51 50,ax 52 .gtr 51 3]⟩,⟨none,[bq 53 49 52,aa 54 53]⟩,⟨(some (54,false)),[av 55 1 4,ak 56 55,ax 57 .eql 56 0,av 58 2 4,ak 59 58,ax 60 .eql 59 0,((some 61),.op (.beq false (.tmp 57) (.tmp 60)))]⟩,⟨none,[bq 62 54 61]⟩],bc 62 (ae [ab [bb 2 false],.ret])],ab [aN 5 1],bJ 2 kf]),ab [aa 15 3,ax 16 .add 15 1,aa 3 16]]
def lz:SF:=⟨ae [ab [cE 1 0,bb 2 false],ae [ab [av 6 0 1,ak 7 6,aR 8 7,ax 9 .gtr 8 24],bc 9 (ae [ab [bb 2 false],.ret])],ae [ab [aN 3 0],bJ 0 kd],ab [bb 2 true],.ret],
 [.tmp 2],73⟩
theorem qx:aE Tryz.prog 104 [1]=some lz:=by kernel_rfl
def k7:SC :=
 ae [ae [ab [aa 14 3,av 15 1 1,ak 16 15,aR 17 16,aV 18 .lss 14 17],bH 18 (.exit 0)],.block 1 (ae [.region false [⟨none,[av 21 1 1,ak 22 21,aa 23 3,aW 24 1 22 23,ak 25 24,aJ 26 172 [25],bS 27 26,aa 28 27]⟩,⟨(some (28,false)),[ba 29 4 1,av 30 1 1,ak 31 30,aa 32 3,aW 33 1 31 32,ak 34 33,aJ 35 150 [29,34],aa 36 3,aV 37 .neq 35 36]⟩,⟨none,[bq 38 28 37,aa 39 38]⟩,⟨(some (39,false)),[ba 40 4 1,av 41 1 1,ak 42 41,aa 43 3,aW 44 1 42 43,ak 45 44,aJ 46 170 [40,45],ax 47 .geq 46 0]⟩,⟨none,[bq 48 39 47]⟩],bc 48 (ae [ab [bb 2 false],.ret])]),ab [aa 19 3,ax 20 .add 19 1,aa 3 20]]
def nA:SF:=⟨ae [ab [cE 1 0,bb 2 false],ae [.region false [⟨none,[av 4 1 1,ak 5 4,aR 6 5,ax 7 .lss 6 1,aa 8 7]⟩,⟨(some (8,false)),[av 9 1 1,ak 10 9,aR 11 10,ax 12 .gtr 11 16]⟩,⟨none,[bq 13 8 12]⟩],bc 13 (ae [ab [bb 2 false],.ret])],ae [ab [aN 3 0],bJ 0 k7],ab [bb 2 true],.ret],
 [.tmp 2],49⟩
theorem q8:aE Tryz.prog 105 [1]=some nA:=by kernel_rfl
def kL:SC :=
 ae [ae [ab [aa 23 5,av 24 1 3,ak 25 24,aR 26 25,aV 27 .lss 23 26],bH 27 (.exit 0)],.block 1 (ae [.region false [⟨none,[ba 30 4 2,av 31 1 3,ak 32 31,aa 33 5,aW 34 1 32 33,ak 35 34,aJ 36 74 [30,35],bS 37 36,aa 38 37]⟩,⟨(some (38,false)),[av 39 1 3,ak 40 39,aa 41 5,aW 42 1 40 41,ak 43 42,ax 44 .geq 43 0,aa 45 44]⟩,⟨(some (45,true)),[av 46 2 3,ak 47 46,ax 48 .eql 47 (-1)]⟩,⟨(some (38,false)),[bV 49 45 48]⟩,⟨none,[bq 50 38 49]⟩],bc 50 (ae [ab [bb 4 false],.ret])]),ab [aa 28 5,ax 29 .add 28 1,aa 5 29]]
def mT:SF:=⟨ae [ab [cE 2 0,cE 3 1,bb 4 false],ae [.region false [⟨none,[av 6 1 3,ak 7 6,aR 8 7,ax 9 .gtr 8 6,aa 10 9]⟩,⟨(some (10,false)),[av 11 2 3,ak 12 11,ax 13 .lss 12 (-1)]⟩,⟨none,[bq 14 10 13,aa 15 14]⟩,⟨(some (15,false)),[av 16 2 3,ak 17 16,av 18 0 2,ak 19 18,aR 20 19,aV 21 .geq 17 20]⟩,⟨none,[bq 22 15 21]⟩],bc 22 (ae [ab [bb 4 false],.ret])],ae [ab [aN 5 0],bJ 0 kL],ab [bb 4 true],.ret],
 [.tmp 4],51⟩
theorem ra:aE Tryz.prog 106 [2,3]=some mT:=by kernel_rfl
def kB:SC :=
 ae [ae [ab [aa 39 4,av 40 2 1,ak 41 40,aR 42 41,aV 43 .lss 39 42],bH 43 (.exit 0)],.block 1 (ae [ab [av 46 2 1,ak 47 46,aa 48 4,aW 49 3 47 48,ba 50 3 49,((some 5),.op (.alloc [(.val (.int .i64 0)),(.emp 1),(.val (.int .i64 0))])),cb 3 5 50],ae [.region false [⟨none,[av 51 0 5,ak 52 51,ax 53 .lss 52 0,aa 54 53]⟩,⟨(some (54,false)),[av 55 0 5,ak 56 55,aa 57 3,ax 58 .add 57 1,aV 59 .gtr 56 58]⟩,⟨none,[bq 60 54 59,aa 61 60]⟩,⟨(some (61,false)),[ba 62 4 1,ba 63 3 5,aJ 64 106 [62,63],bS 65 64]⟩,⟨none,[bq 66 61 65]⟩],bc 66 (ae [ab [bb 2 false],.ret])],ab [av 67 0 5,ak 68 67,aa 69 3,aV 70 .gtr 68 69],bc 70 (ab [av 71 0 5,ak 72 71,aa 3 72])]),ab [aa 44 4,ax 45 .add 44 1,aa 4 45]]
def lE:SF:=⟨ae [ab [cE 1 0,bb 2 false],ae [.region false [⟨none,[ba 6 4 1,aJ 7 104 [6],bS 8 7,aa 9 8]⟩,⟨(some (9,false)),[ba 10 4 1,aJ 11 105 [10],bS 12 11]⟩,⟨none,[bq 13 9 12,aa 14 13]⟩,⟨(some (14,false)),[av 15 2 1,ak 16 15,aR 17 16,ax 18 .lss 17 1]⟩,⟨none,[bq 19 14 18,aa 20 19]⟩,⟨(some (20,false)),[av 21 2 1,ak 22 21,aR 23 22,ax 24 .gtr 23 40]⟩,⟨none,[bq 25 20 24,aa 26 25]⟩,⟨(some (26,false)),[av 27 3 1,ak 28 27,ax 29 .lss 28 0]⟩,⟨none,[bq 30 26 29,aa 31 30]⟩,⟨(some (31,false)),[av 32 3 1,ak 33 32,av 34 1 1,ak 35 34,aR 36 35,aV 37 .geq 33 36]⟩,⟨none,[bq 38 31 37]⟩],bc 38 (ae [ab [bb 2 false],.ret])],ab [aN 3 (-1)],ae [ab [aN 4 0],bJ 0 kB],ab [aa 73 3,av 74 1 1,ak 75 74,aR 76 75,ax 77 .sub 76 1,aV 78 .eql 73 77,aa 2 78],.ret],
 [.tmp 2],79⟩
theorem qB:aE Tryz.prog 50 [1]=some lE:=by kernel_rfl
theorem Gn (g:ai) (p:g.Ok) (H:View):an Tryz.prog 104 [.agg (ah g)] H λr _=>r=gb (gN g):=by
 refine an.of mixed qx ?_
 simp(disch:=omega)only[↓wr,seval,wq,lz,ah,encS]
 apply ag.dec<;>intro h
 .simp(disch:=omega)only[↓wr,seval,wq]
  simp[gN,show ¬ g.ao.length<=24 by omega]
 .have hle:g.ao.length<=24:=by omega
  simp(disch:=omega)only[↓wr,seval,wq]
  refine aP.intro (λk T _=>∃ i:Nat,i+k=g.ao.length/\gJ g (g.ao.drop i) i=gJ g g.ao 0/\T 1=.aC (ah g) 0/\T 3=gi i) g.ao.length ?_ ?_
  .exact⟨0,by omega,rfl,rfl,rfl⟩
  .rintro k T H' ⟨i,hk,hi,h1,d⟩
   simp(disch:=omega)only[↓wr,seval,wq,kd,h1,d,ah]
   apply ag.dec<;>intro z
   .have f:g.ao[i]?=some (g.ao[i]'(by omega)):=OI (by omega)
    rw[ef (show i < g.ao.length by omega)] at hi
    have b:g.ao[i]'(by omega)∈g.ao:=OW _
    generalize g.ao[i]'(by omega)=t at f hi b
    obtain⟨⟨A,B⟩,⟨C,D⟩⟩:=p.term t b
    simp only[gJ] at hi
    have a:gX g i t=false->gb false=gb (gN g):=λe=>by rw[e,P2] at hi;simp[gN,<-hi]
    simp(disch:=omega)only[↓wr,seval,wq,h1,d,ah,c7,ON,f,OU]
    intro m hm
    try simp(disch:=omega)only[↓wr,seval,wq,h1,d]
    refine aj.pure (FN t.name) ?_
    repeat' (first | ((first|apply ag.dec|apply ag.eq|apply ag.ne|apply ag.split)<;>intro)|(simp(disch:=omega)only[↓wr,seval,wq,h1,d,ah]))
    all_goals try (refine a ?_;simp[gX, *];done)
    rename_i s
    refine aj.pure (Au g p t.name) ?_
    repeat' (first | ((first|apply ag.dec|apply ag.eq|apply ag.ne|apply ag.split)<;>intro)|(simp(disch:=omega)only[↓wr,seval,wq,h1,d,ah]))
    all_goals try (refine a ?_;simp[gX, *];done)
    all_goals try (refine a ?_;simp[gX];grind)
    rename_i E K L M N F
    have c:gX g i t=oE g t:=by
     have u:((t.level == 0) == (t.assoc == 0))=true:=by simpa using F
     simp[gX,s,E,u,show (0:Int)<=t.level by omega,show t.level<=24 by omega,show (0:Int)<=t.assoc by omega,show t.assoc<=3 by omega]
    refine aP.intro (λv T l=>∃ j:Nat,1<=j/\j+v=t.level.toNat+1/\(∀ q:Nat,q+1 < j->eR g.ao ((q:Int)+1)=true)/\T 1=.aC (ah g) 0/\T 3=gi i/\T 4=.ptr m 0 0/\l m=.arr 3 [[gs t.name,gi t.level,gi t.assoc]]/\T 5=gi j) t.level.toNat ?_ ?_
    .refine⟨1,by omega,by omega,λq w=>by omega,?_⟩
     simp(disch:=omega)only[↓wr,↓reduceIte,wq,Nat.reduceEqDiff,Nat.reduceAdd,Nat.reduceLT,Nat.reduceLeDiff,Int.reduceNeg,Int.reduceToNat,reduceCtorEq,h1,d,ah]
     rfl
    .rintro v O l ⟨j,G,I,n,f1,f3,f4,o,f5⟩
     simp(disch:=omega)only[↓wr,seval,wq,kf,f1,f3,f4,f5,o]
     apply ag.dec<;>intro J
     .simp(disch:=omega)only[↓wr,seval,wq,f1,f3,f4,f5,o,ah]
      refine aj.pure (GC g p j) ?_
      repeat' (first | ((first|apply ag.dec|apply ag.eq|apply ag.ne|apply ag.split)<;>intro)|(simp(disch:=omega)only[↓wr,seval,wq,f1,f3,f4,f5,o,ah]))
      .rename_i x
       refine⟨v - 1,by omega,j+1,by omega,by omega,λq w=>?_,by first | rfl | exact⟨rfl,rfl⟩ | exact⟨rfl,rfl,rfl⟩⟩
       by_cases e:q+1=j
       .have:(q:Int)+1=j:=by omega
        rw[this];exact x
       .exact n q (by omega)
      .rename_i x
       refine a ?_
       rw[c,oE,QA]
       refine⟨j - 1,by simp;omega,?_⟩
       have:((j - 1:Nat):Int)+1=j:=by omega
       rw[this,x];simp
     .simp(disch:=omega)only[↓wr,seval,wq,f1,f3,f4,f5,o]
      refine⟨k - 1,by omega,i+1,by omega,?_,by first | rfl | exact⟨rfl,rfl⟩ | exact⟨rfl,rfl,rfl⟩⟩
      have y:oE g t=true:=by
       rw[oE,O7]
       intro q w
       exact n q (by simp at w;omega)
      rw[c,y,Pz] at hi
      push_cast;exact hi
   .rw[Po (by omega)] at hi
    simp only[gJ] at hi
    simp(disch:=omega)only[↓wr,seval,wq,h1,d]
    simp[gN,hle,<-hi]
theorem GI (g:ai) (a:g.Ok):ar Tryz.prog 104 [.agg (ah g)] (gb (gN g)):=ar.val (dD g) (Gn g a)
def jd (g:ai) (i:Int) (s:ByteArray):Bool:=ew (dL s) && (tM g s == i) && decide (jL g s < 0)
def ov (g:ai):List ByteArray->Int->Bool
 | [],_=>true
 | s :: r,i=>jd g i s && ov g r (i+1)
def im (g:ai):Bool:=decide (1<=g.af.length) && decide (g.af.length<=16) && ov g g.af 0
theorem Hc (g:ai) (h:g.Ok) (H:View):an Tryz.prog 105 [.agg (ah g)] H λr _=>r=gb (im g):=by
 refine an.of mixed q8 ?_
 repeat' (first | ((first|apply ag.dec|apply ag.eq|apply ag.ne|apply ag.split)<;>intro)|(simp(disch:=omega)only[↓wr,seval,wq,nA,ah,encS]))
 .simp[im,show ¬ 1<=g.af.length by omega]
 .simp[im,show ¬ g.af.length<=16 by omega]
 .have hle:g.af.length<=16:=by omega
  refine aP.intro (λk T _=>∃ i:Nat,i+k=g.af.length/\ov g (g.af.drop i) i=ov g g.af 0/\T 1=.aC (ah g) 0/\T 3=gi i) g.af.length ?_ ?_
  .exact⟨0,by omega,rfl,rfl,rfl⟩
  .rintro k T H' ⟨i,hk,hi,h1,c⟩
   simp(disch:=omega)only[↓wr,seval,wq,k7,h1,c,ah,encS]
   apply ag.dec<;>intro j
   .have b:g.af[i]?=some (g.af[i]'(by omega)):=OI (by omega)
    rw[ef (show i < g.af.length by omega)] at hi
    generalize g.af[i]'(by omega)=t at b hi
    simp only[ov] at hi
    have a:jd g i t=false->gb false=gb (im g):=λe=>by rw[e,P2] at hi;simp[im,<-hi]
    simp(disch:=omega)only[↓wr,seval,wq,h1,c,ah,encS,ON,b,OU]
    refine aj.pure (Aa t) ?_
    repeat' (first | ((first|apply ag.dec|apply ag.eq|apply ag.ne|apply ag.split)<;>intro)|(simp(disch:=omega)only[↓wr,seval,wq,h1,c,ah,encS,ON,b,OU]))
    all_goals try (refine a ?_;simp[jd, *];done)
    rename_i d
    refine aj.pure (KL g h t) ?_
    repeat' (first | ((first|apply ag.dec|apply ag.eq|apply ag.ne|apply ag.split)<;>intro)|(simp(disch:=omega)only[↓wr,seval,wq,h1,c,ah,encS,ON,b,OU]))
    all_goals try (refine a ?_;simp[jd, *];done)
    rename_i f
    refine aj.pure (Au g h t) ?_
    repeat' (first | ((first|apply ag.dec|apply ag.eq|apply ag.ne|apply ag.split)<;>intro)|(simp(disch:=omega)only[↓wr,seval,wq,h1,c,ah,encS]))
    all_goals try (refine a ?_;simp[jd, *];done)
    rename_i l
    refine⟨k - 1,by omega,i+1,by omega,?_,by first | rfl | exact⟨rfl,rfl⟩ | exact⟨rfl,rfl,rfl⟩⟩
    have:jd g i t=true:=by simp[jd,d,f,show jL g t < 0 by omega]
    rw[this,Pz] at hi
    push_cast;exact hi
   .rw[Po (by omega)] at hi
    simp only[ov] at hi
    simp(disch:=omega)only[↓wr,seval,wq,h1,c]
    simp[im,hle,show 1<=g.af.length by omega,<-hi]
theorem Ik (g:ai) (a:g.Ok):ar Tryz.prog 105 [.agg (ah g)] (gb (im g)):=ar.val (dD g) (Hc g a)
def jZ (g:ai) (prec s:Int):Bool:=eO g s && !(decide (0<=s) && prec == -1)
def fq (g:ai) (r:aF):Bool:=decide (r.right.length<=6) && decide (-1<=r.prec) && decide (r.prec < g.ao.length) && r.right.all (jZ g r.prec)
theorem Bg (g:ai) (r:aF):∀ v∈[V.agg (ah g),V.agg (aS r)],Tree v:=by
 intro v a;simp at a
 rcases a with rfl | rfl
 .exact cW _ (cy g)
 .exact cW _ (ic r)
theorem It (g:ai) (r:aF) (hr:aG r.right/\∀ x∈r.right,bm x) (H:View):an Tryz.prog 106 [.agg (ah g),.agg (aS r)] H λv _=>v=gb (fq g r):=by
 refine an.of mixed ra ?_
 repeat' (first | ((first|apply ag.dec|apply ag.eq|apply ag.ne|apply ag.split)<;>intro)|(simp(disch:=omega)only[↓wr,seval,wq,mT,ah,encS,aS,encI]))
 .simp[fq,show ¬ r.right.length<=6 by omega]
 .simp[fq,show ¬ -1<=r.prec by omega]
 .simp[fq,show ¬ r.prec < g.ao.length by omega]
 .have hle:r.right.length<=6:=by omega
  have j : -1<=r.prec:=by omega
  have l:r.prec < g.ao.length:=by omega
  refine aP.intro (λk T _=>∃ i:Nat,i+k=r.right.length/\(r.right.drop i).all (jZ g r.prec)=r.right.all (jZ g r.prec)/\T 2=.aC (ah g) 0/\T 3=.aC (aS r) 0/\T 5=gi i) r.right.length ?_ ?_
  .exact⟨0,by omega,rfl,rfl,rfl,rfl⟩
  .rintro k T H' ⟨i,hk,hi,d,f,h⟩
   simp(disch:=omega)only[↓wr,seval,wq,kL,d,f,h,aS,encI]
   apply ag.dec<;>intro o
   .have b:r.right[i]?=some (r.right[i]'(by omega)):=OI (by omega)
    rw[ef (show i < r.right.length by omega)] at hi
    have a:r.right[i]'(by omega)∈r.right:=OW _
    generalize r.right[i]'(by omega)=t at b hi a
    have m:=hr.2 t a
    simp only[PH] at hi
    have c:jZ g r.prec t=false->gb false=gb (fq g r):=λe=>by rw[e,P2] at hi;simp only[fq,<-hi,Bool.and_false]
    have n:jZ g r.prec t=true->(r.right.drop (i+1)).all (jZ g r.prec)=r.right.all (jZ g r.prec):=λe=>by rw[e,Pz] at hi;exact hi
    simp(disch:=omega)only[↓wr,seval,wq,d,f,h,ah,encS,aS,encI,ON,b,OU]
    refine aj.pure (G5 g t m) ?_
    repeat' (first | ((first|apply ag.dec|apply ag.eq|apply ag.ne|apply ag.split)<;>intro)|(simp(disch:=omega)only[↓wr,seval,wq,d,f,h,ah,encS,aS,encI,ON,b,OU]))
    all_goals first
     | (refine c ?_;simp[jZ, *];done)
     | (refine⟨k - 1,by omega,i+1,by omega,n (by simp[jZ, *];done),by first | rfl | exact⟨rfl,rfl⟩ | exact⟨rfl,rfl,rfl⟩⟩)
     | skip
   .rw[Po (by omega)] at hi
    simp only[List.all_nil] at hi
    simp(disch:=omega)only[↓wr,seval,wq,d,f,h]
    simp only[fq,hle,j,l,decide_true,Pz,<-hi]
theorem Iz (g:ai) (r:aF) (hr:aG r.right/\∀ x∈r.right,bm x):ar Tryz.prog 106 [.agg (ah g),.agg (aS r)] (gb (fq g r)):=ar.val (Bg g r) (It g r hr)
def eQ (g:ai):List aF->Int->Bool
 | [],top=>top == (g.af.length:Int) - 1
 | r :: l,top=>decide (0<=r.left) && decide (r.left<=top+1) && fq g r && eQ g l (if r.left > top then r.left else top)
def aA (g:ai):Bool :=
 gN g && im g && decide (1<=g.rules.length) && decide (g.rules.length<=40) && decide (0<=g.start) && decide (g.start < g.af.length) && eQ g g.rules (-1)
theorem FD (g:ai) (h:g.Ok) (H:View):an Tryz.prog 50 [.agg (ah g)] H λr _=>r=gb (aA g):=by
 refine an.of mixed qB ?_
 have o:=h.af
 unfold aG at o
 simp(disch:=omega)only[↓wr,seval,wq,lE,ah,encS]
 refine aj.pure (GI g h) ?_
 repeat' (first | ((first|apply ag.dec|apply ag.eq|apply ag.ne|apply ag.split)<;>intro)|(simp(disch:=omega)only[↓wr,seval,wq,ah,encS]))
 .rename_i h1
  refine aj.pure (Ik g h) ?_
  repeat' (first | ((first|apply ag.dec|apply ag.eq|apply ag.ne|apply ag.split)<;>intro)|(simp(disch:=omega)only[↓wr,seval,wq,ah,encS]))
  all_goals try (simp[aA, *];done)
  all_goals try (simp[aA];omega)
  rename_i p y z A B
  have hle:g.rules.length<=40:=by omega
  have a:∀ b,eQ g g.rules (-1)=b->gb b=gb (aA g):=λb e=>by
   simp[aA,h1,p,show 1<=g.rules.length by omega,hle,show 0<=g.start by omega,show g.start < g.af.length by omega,e]
  refine aP.intro (λk T _=>∃ (i:Nat) (w:Int),i+k=g.rules.length/\-1<=w/\w < i/\eQ g (g.rules.drop i) w=eQ g g.rules (-1)/\T 1=.aC (ah g) 0/\T 3=gi w/\T 4=gi i) g.rules.length ?_ ?_
  .exact⟨0,-1,by omega,by omega,by omega,rfl,rfl,rfl,rfl⟩
  .rintro k T H' ⟨i,w,hk,q,s,hi,f1,f3,f4⟩
   simp(disch:=omega)only[↓wr,seval,wq,kB,f1,f3,f4,ah]
   apply ag.dec<;>intro u
   .have d:g.rules[i]?=some (g.rules[i]'(by omega)):=OI (by omega)
    rw[ef (show i < g.rules.length by omega)] at hi
    have c:g.rules[i]'(by omega)∈g.rules:=OW _
    generalize g.rules[i]'(by omega)=t at d hi c
    obtain⟨⟨v,x⟩,hp,j,l⟩:=h.aZ t c
    simp only[eQ] at hi
    simp(disch:=omega)only[↓wr,seval,wq,f1,f3,f4,ah,encS,aS,encI,ON,d,OU]
    intro m hm
    try simp(disch:=omega)only[↓wr,seval,wq,f1,f3,f4]
    repeat' (first | ((first|apply ag.dec|apply ag.eq|apply ag.ne|apply ag.split)<;>intro)|(simp(disch:=omega)only[↓wr,seval,wq,f1,f3,f4,ah,encS,aS,encI]))
    all_goals try (refine a _ ?_;simp only[<-hi];simp;omega)
    rename_i C D
    refine aj.pure (Iz g t ⟨j,l⟩) ?_
    repeat' (first | ((first|apply ag.dec|apply ag.eq|apply ag.ne|apply ag.split)<;>intro)|(simp(disch:=omega)only[↓wr,seval,wq,f1,f3,f4,ah,encS,aS,encI]))
    all_goals simp only[show 0<=t.left by omega,show t.left<=w+1 by omega,decide_true,Pz] at hi
    .rename_i f n
     rw[f,Pz,OM n] at hi
     exact⟨k - 1,by omega,i+1,_,by omega,by omega,by push_cast;omega,hi,by first | rfl | exact⟨rfl,rfl⟩ | exact⟨rfl,rfl,rfl⟩⟩
    .rename_i f n
     rw[f,Pz,OK n] at hi
     exact⟨k - 1,by omega,i+1,_,by omega,by omega,by push_cast;omega,hi,by first | rfl | exact⟨rfl,rfl⟩ | exact⟨rfl,rfl,rfl⟩⟩
    .rename_i f
     rw[f,P2] at hi
     exact a _ hi.symm
   .rw[Po (by omega)] at hi
    simp only[eQ] at hi
    simp(disch:=omega)only[↓wr,seval,wq,f1,f3,f4,ah,encS]
    exact a _ hi.symm
 .rename_i h1;simp[aA,h1]
theorem iJ (g:ai) (a:g.Ok):ar Tryz.prog 50 [.agg (ah g)] (gb (aA g)):=ar.val (dD g) (FD g a)
inductive bt (α:Type) where
 | nil
 | node (v:α) (l r:bt α)
noncomputable def bt.get {α:Type} (z:α) (t:bt α):Nat->α :=
 bt.rec (motive:=λ_=>Nat->α) (λ_=>z) (λv _ _ gl gr i=>Bool.rec (Bool.rec (gr (i / 2 - 1)) (gl (i / 2)) (Nat.beq (i % 2) 1)) v (Nat.beq i 0)) t
theorem bt.get_nil {α:Type} (z:α) (i:Nat):bt.get z .nil i=z:=rfl
theorem bt.JV {α:Type} (z v:α) (l r:bt α) (i:Nat):bt.get z (.node v l r) i=match Nat.beq i 0 with
  | true=>v
  | false=>match Nat.beq (i % 2) 1 with
   | true=>bt.get z l (i / 2)
   | false=>bt.get z r (i / 2 - 1):=by
 change (Bool.rec (motive:=λ_=>α) _ _ _:α)=_
 cases Nat.beq i 0 with
 | true=>rfl
 | false=>cases Nat.beq (i % 2) 1 <;> rfl
def bt.val {α:Type} (z:α):bt α->α
 | .nil=>z
 | .node v _ _=>v
def bt.left {α:Type} : bt α->bt α
 | .nil=>.nil
 | .node _ l _=>l
def bt.right {α:Type} : bt α->bt α
 | .nil=>.nil
 | .node _ _ r=>r
noncomputable def bt.put {α:Type} (z:α) (x:α) (d:Nat):bt α->Nat->bt α :=
 Nat.rec (motive:=λ_=>bt α->Nat->bt α) (λt _=>t) (λ_ pd t i =>
  Bool.rec (Bool.rec (.node (t.val z) t.left (pd t.right (i / 2 - 1))) (.node (t.val z) (pd t.left (i / 2)) t.right) (Nat.beq (i % 2) 1)) (.node x t.left t.right) (Nat.beq i 0)) d
theorem bt.J7 {α:Type} (z x:α) (d:Nat) (t:bt α) (i:Nat):bt.put z x (d+1) t i=match Nat.beq i 0 with
  | true=>.node x t.left t.right
  | false=>match Nat.beq (i % 2) 1 with
   | true=>.node (t.val z) (bt.put z x d t.left (i / 2)) t.right
   | false=>.node (t.val z) t.left (bt.put z x d t.right (i / 2 - 1)):=by
 change (Bool.rec (motive:=λ_=>bt α) _ _ _:bt α)=_
 cases Nat.beq i 0 with
 | true=>rfl
 | false=>cases Nat.beq (i % 2) 1 <;> rfl
theorem bt.kq {α:Type} (z:α) (t:bt α) (j:Nat):t.get z j=if j=0 then t.val z else if j % 2=1 then t.left.get z (j / 2) else t.right.get z (j / 2 - 1):=by
 cases t with
 | nil=>simp[bt.get_nil,bt.val,bt.left,bt.right]
 | node v l r =>
  simp only[bt.JV,bt.val,bt.left,bt.right]
  by_cases h:j=0
  .subst h;rfl
  .have:Nat.beq j 0=false:=by cases e:Nat.beq j 0 with | true=>exact absurd (Nat.eq_of_beq_eq_true e) h | false=>rfl
   rw[this,OK h]
   simp only
   by_cases a:j % 2=1
   .have:Nat.beq (j % 2) 1=true:=by rw[a];rfl
    rw[this,OM a]
   .have:Nat.beq (j % 2) 1=false:=by cases e:Nat.beq (j % 2) 1 with | true=>exact absurd (Nat.eq_of_beq_eq_true e) a | false=>rfl
    rw[this,OK a]
theorem bt.kz {α:Type} (z x:α):∀ (d:Nat) (t:bt α) (i j:Nat),i+1 < 2 ^ d->(bt.put z x d t i).get z j=if j=i then x else t.get z j
 | 0,t,i,j,h=>by simp at h
 | d+1,t,i,j,h=>by
  rw[PV] at h
  simp only[bt.J7]
  by_cases hi:i=0
  .subst hi
   have:Nat.beq 0 0=true:=rfl
   rw[this]
   simp only
   rw[bt.kq,bt.kq z t]
   simp only[bt.val,bt.left,bt.right]
   by_cases b:j=0
   .rw[OM b,OM b]
   .rw[OK b,OK b,OK b]
  .have:Nat.beq i 0=false:=by cases e:Nat.beq i 0 with | true=>exact absurd (Nat.eq_of_beq_eq_true e) hi | false=>rfl
   rw[this]
   simp only
   by_cases c:i % 2=1
   .have:Nat.beq (i % 2) 1=true:=by rw[c];rfl
    rw[this]
    simp only
    rw[bt.kq,bt.kq z t]
    simp only[bt.val,bt.left,bt.right]
    by_cases b:j=0
    .subst b;rw[OM rfl,OK (λe=>hi e.symm),OM rfl]
    .rw[OK b,OK b]
     by_cases a:j % 2=1
     .rw[OM a,OM a,bt.kz z x d _ _ _ (by omega)]
      by_cases e:j=i
      .subst e;simp
      .rw[OK e,OK (by omega)]
     .rw[OK a,OK a,OK (λe=>a (by rw[e];exact c))]
   .have:Nat.beq (i % 2) 1=false:=by cases e:Nat.beq (i % 2) 1 with | true=>exact absurd (Nat.eq_of_beq_eq_true e) c | false=>rfl
    rw[this]
    simp only
    rw[bt.kq,bt.kq z t]
    simp only[bt.val,bt.left,bt.right]
    by_cases b:j=0
    .subst b;rw[OM rfl,OK (λe=>hi e.symm),OM rfl]
    .rw[OK b,OK b]
     by_cases a:j % 2=1
     .rw[OM a,OM a,OK (λe=>c (by rw[<-e];exact a))]
     .rw[OK a,OK a,bt.kz z x d _ _ _ (by omega)]
      by_cases e:j=i
      .subst e;simp
      .rw[OK e,OK (by omega)]
abbrev deep:Nat:=13
structure ES where
 L:bt V
 H:bt bp
 n:Nat
 w:List Nat
noncomputable def ES.T (s:ES):Env:=s.L.get .any
noncomputable def ES.V (s:ES):View:=s.H.get .dead
noncomputable def ES.put (s:ES) (d:Option Nat) (v:Gv.V):ES:=match d with
 | some t=>⟨s.L.put .any v deep t,s.H,s.n,s.w⟩
 | none=>s
theorem ES.Li {s:ES} {d:Option Nat} {v:Gv.V} (h:∀ t,d=some t->t < 8000):(s.put d v).T=s.T.put d v:=by
 cases d with
 | none=>rfl
 | some t =>
  funext k
  have:=h t rfl
  simp only[ES.put,ES.T,Env.put]
  rw[bt.kz _ _ _ _ _ _ (by simp[deep];omega)]
noncomputable def BA (v:V) (au:aM) (rd:List Nat) (s:ES):Option (V × ES × Rec):=match au with
 | .none=>some (v,s,⟨rd,[],false,s.n,s.n⟩)
 | .new o=>match Nat.ble s.n 8000 with
  | true=>some (v,⟨s.L,s.H.put .dead o deep s.n,s.n+1,s.w⟩,⟨rd,[],false,s.n,s.n+1⟩)
  | false=>none
 | .dP id o=>match Nat.ble id 8000 with
  | true=>some (v,⟨s.L,s.H.put .dead o deep id,s.n,id :: s.w⟩,⟨rd,[id],false,s.n,s.n⟩)
  | false=>none
 | .cF id o=>match Nat.ble s.n 8000,Nat.ble id 8000 with
  | true,true=>some (v,⟨s.L,(s.H.put .dead .dead deep id).put .dead o deep s.n,s.n+1,id :: s.w⟩,⟨rd,[id],false,s.n,s.n+1⟩)
  | _,_=>none
noncomputable def N5 (x:SX) (_:Program) (T:Env) (_:View) (_:Nat):Out:=some (x.at T,.none,[])
noncomputable def Ns (c a b:SX) (_:Program) (T:Env) (_:View) (_:Nat):Out:=match c.at T with
 | .val (.bool t)=>some (if t then a.at T else b.at T,.none,[])
 | _=>none
noncomputable def Nt (sz:Option Nat) (a:SX) (_:Program) (T:Env) (H:View) (_:Nat):Out:=sm sz (a.at T) H
noncomputable def M1 (sz:Nat) (a x:SX) (_:Program) (T:Env) (H:View) (_:Nat):Out:=yy sz (a.at T) (x.at T) H
noncomputable def Nl (off:Nat) (x:SX) (_:Program) (T:Env) (_:View) (_:Nat):Out:=vd off (x.at T)
noncomputable def N2 (sz:Nat) (x i:SX) (_:Program) (T:Env) (_:View) (_:Nat):Out:=y6 sz (x.at T) (i.at T)
noncomputable def NK (x:SX) (_:Program) (T:Env) (_:View) (_:Nat):Out:=(dh (x.at T)).map λn=>(bz n,.none,[])
noncomputable def MJ (op:BinOp) (x y:SX) (_:Program) (T:Env) (_:View) (_:Nat):Out:=tV op (x.at T) (y.at T)
noncomputable def NJ (op:BinOp) (x y:SX) (_:Program) (T:Env) (_:View) (_:Nat):Out:=wE op (x.at T) (y.at T)
noncomputable def N0 (x:SX) (_:Program) (T:Env) (_:View) (_:Nat):Out:=match x.at T with
 | .val (.bool t)=>some (.val (.bool (!t)),.none,[])
 | _=>none
noncomputable def NH (i:Nat) (x:SX) (_:Program) (T:Env) (_:View) (_:Nat):Out:=match x.at T with
 | .aU vs=>if i < vs.length then some (vs.getD i .any,.none,[]) else none
 | _=>none
noncomputable def Nf (x:SX) (_:Program) (T:Env) (_:View) (_:Nat):Out:=match x.at T with
 | .ptr id i j=>some (.ptr id i j,.none,[])
 | .aC e j=>some (.aC e j,.none,[])
 | .fn f a b=>some (.fn f a b,.none,[])
 | _=>none
noncomputable def eI (s:SI):Program->Env->View->Nat->Out:=match s with
 | .cF x=>N5 x
 | .pick c a b=>Ns c a b
 | .load sz a=>Nt sz a
 | .store sz a x=>M1 sz a x
 | .addr o x=>Nl o x
 | .idx sz x i=>N2 sz x i
 | .len x=>NK x
 | .arith op x y=>MJ op x y
 | .tN op x y=>NJ op x y
 | .not x=>N0 x
 | .ext i x=>NH i x
 | .wC x=>Nf x
 | s=>λP T H n=>sI P s T H n
theorem F7 (s:SI) (P:Program) (T:Env) (H:View) (n:Nat):eI s P T H n=sI P s T H n:=by
 cases s <;> rfl
abbrev fi:=FuncId->List V->ES->Option (V × ES)
noncomputable def Ja (P:Program) (s:SI) (e:ES):Option (V × ES × Rec):=match eI s P e.T e.V e.n with
 | some (v,au,rd)=>BA v au rd e
 | none=>none
noncomputable def HA (call:fi) (f:SX) (args:List SX) (e:ES):Option (V × ES × Rec):=match f.at e.T with
 | .fn g first cap=>match call g (first ++ args.map (SX.at e.T) ++ cap) e with
  | some (v,e')=>some (v,⟨e.L,e'.H,e'.n,e'.w ++ e.w⟩,⟨[],e'.w,true,e.n,e'.n⟩)
  | none=>none
 | _=>none
noncomputable def eB (P:Program) (call:fi) (b:SB):ES->Option (V × ES × Rec):=match b with
 | .op s=>Ja P s
 | .call f args=>HA call f args
 | .vu ..=>λ_=>none
noncomputable def EJ (P:Program) (call:fi):List (Option Nat × SB)->List Rec->ES->Option (ES × List Rec)
 | [],a,e=>some (e,a)
 | (d,b) :: r,a,e=>match eB P call b e with
  | some (v,e',c)=>EJ P call r (a ++ [c]) (e'.put d v)
  | none=>none
noncomputable def Ll (e:ES):Rec:=⟨[],[],false,e.n,e.n⟩
noncomputable def r9:List (Option Nat × SB)->List Rec->ES->ES × List Rec
 | [],a,e=>(e,a)
 | (d,_) :: r,a,e=>r9 r (a ++ [Ll e]) (e.put d (.aU []))
noncomputable def GV (P:Program) (call:fi) (ops:List (Option Nat × SB)) (want:Bool) (v:V) (a:List Rec) (e:ES):Option (ES × List Rec):=match v with
 | .val (.bool b)=>match xor b want with
  | true=>some (r9 ops a e)
  | false=>EJ P call ops a e
 | .aU []=>some (r9 ops a e)
 | _=>none
noncomputable def eG (P:Program) (call:fi) (g:SG) (a:List Rec) (e:ES):Option (ES × List Rec):=match g.guard with
 | none=>EJ P call g.ops a e
 | some (d,want)=>GV P call g.ops want (e.T d) a e
noncomputable def HY (P:Program) (call:fi):List SG->List Rec->ES->Option (ES × List Rec)
 | [],a,e=>some (e,a)
 | g :: r,a,e=>match eG P call g a e with
  | some (e',a')=>HY P call r a' e'
  | none=>none
inductive DC where
 | skip
 | region (ps:List (Nat × Nat)) (gs:List SG)
 | seq (x y:DC)
 | cond (c:SX) (x y:DC)
 | block (id:Nat) (c:DC)
 | loop (c:DC)
 | exit (id:Nat)
 | ret
 deriving Inhabited
def I9 (recs:List Rec) (ps:List (Nat × Nat)):Bool:=ps.all λ(i,k)=>match recs[i]?,recs[k]? with
 | some a,some b=>zj a b
 | _,_=>false
abbrev ER:=Option (Exit × ES)
abbrev tF:=DC->ES->ER
noncomputable def Hm:ES->ER:=λe=>some (.normal,e)
noncomputable def E0 (P:Program) (call:fi) (ps:List (Nat × Nat)) (gs:List SG) (e:ES):ER:=match HY P call gs [] e with
 | some (e',recs)=>match I9 recs ps with
  | true=>some (.normal,e')
  | false=>none
 | none=>none
noncomputable def MW (run:tF) (x y:DC) (e:ES):ER:=match run x e with
 | some (.normal,e')=>run y e'
 | r=>r
noncomputable def Lh (run:tF) (c:SX) (x y:DC) (e:ES):ER:=match c.at e.T with
 | .val (.bool true)=>run x e
 | .val (.bool false)=>run y e
 | _=>none
noncomputable def IM (run:tF) (id:Nat) (c:DC) (e:ES):ER:=match run c e with
 | some (r,e')=>some (mF id r,e')
 | none=>none
noncomputable def Ln (run:tF) (c:DC) (e:ES):ER:=match run c e with
 | some (.normal,e')=>run (.loop c) e'
 | r=>r
noncomputable def jI (P:Program) (call:fi) (run:tF) (c:DC):ES->ER:=match c with
 | .skip=>Hm
 | .region ps gs=>E0 P call ps gs
 | .seq x y=>MW run x y
 | .cond c x y=>Lh run c x y
 | .block id c=>IM run id c
 | .loop c=>Ln run c
 | .exit id=>λe=>some (.exit id,e)
 | .ret=>λe=>some (.ret,e)
noncomputable def Jy (r:SR) (e:ES):Option V:=match r with
 | .tmp t=>some (e.T t)
 | .cell t sz=>match e.T t with
  | .ptr id i j=>match e.V id with
   | .arr _ es=>if i < es.length then jO sz (es.getD i []) j else none
   | _=>none
  | .aC e j=>jO sz e j
  | _=>none
noncomputable def su:List SR->ES->Option (List V)
 | [],_=>some []
 | r :: l,e=>match Jy r e,su l e with
  | some v,some vs=>some (v :: vs)
  | _,_=>none
noncomputable def ke:List V->Nat->bt V->bt V
 | [],_,t=>t
 | v :: vs,i,t=>ke vs (i+1) (t.put .any v deep i)
structure DF where
 code:DC
 res:List SR
 n:Nat
noncomputable def MD (l:List SR) (r:ER):Option (V × ES):=match r with
 | some (.ret,e)=>(su l e).map λvs=>(sX vs,e)
 | some (.normal,e)=>(su l e).map λvs=>(sX vs,e)
 | _=>none
noncomputable def MK (m:Nat) (r:Option (V × ES)):Option (V × ES):=match r with
 | some (v,e)=>some (v,⟨e.L,e.H,e.n,e.w.filter λid=>Nat.blt id m⟩)
 | none=>none
noncomputable def MH (run:tF) (F:DF) (vs:List V) (e:ES):Option (V × ES):=match Nat.ble vs.length F.n,Nat.ble F.n 8000 with
 | true,true=>MK e.n (MD F.res (run F.code ⟨ke vs 0 .nil,e.H,e.n,[]⟩))
 | _,_=>none
abbrev wN:=FuncId->List V->View->Option V
noncomputable def AY (P:Program) (tab:List (FuncId × DF)) (ext:wN) (run:tF) (g:FuncId) (vs:List V) (e:ES):Option (V × ES):=match ext g vs e.V with
 | some t=>some (t,⟨e.L,e.H,e.n,[]⟩)
 | none=>match tab.find? (λp=>Nat.beq p.1 g) with
  | some (_,F)=>MH run F vs e
  | none=>none
noncomputable def C8 (P:Program) (tab:List (FuncId × DF)) (ext:wN):Nat->tF
 | 0=>λ_ _=>none
 | k+1=>jI P (AY P tab ext (C8 P tab ext k)) (C8 P tab ext k)
def xz (all:List Oper) (ls:List Nat):List (Nat × Nat) :=
 let b:=dN all []
 (ls.zipIdx.map λ(x,i)=>(ls.zipIdx.filter λ(y,k)=>decide (i < k) && !(ordered b i k || x == 0 || y == 0 || (decide (x<=1) && decide (y<=1)))).map λ(_,k)=>(i,k)).flatten
def CW (P:Program) (n:Nat) (fz:List Nat) (ops:List Oper) (draw:Bool):Option DC:=match b6 P n ops ⟨fz,false⟩ ops with
 | none=>none
 | some l=>if !(group l).all pU then none else
  if draw then (if jo ops then some (.region (xz ops (l.map λs=>fK P false s.b)) (group l)) else none) else some (.region [] (group l))
def fV (P:Program) (n:Nat) (fz:List Nat):Code->Option DC
 | .skip=>some .skip
 | .region _ ops draw=>CW P n fz ops.toList draw
 | .seq x y=>match fV P n fz x,fV P n fz y with
  | some a,some b=>some (.seq a b)
  | _,_=>none
 | .cond c x y=>match fV P n fz x,fV P n fz y with
  | some a,some b=>some (.cond (SX.of c) a b)
  | _,_=>none
 | .block id c=>(fV P n fz c).map (.block id)
 | .loop c=>(fV P n fz c).map .loop
 | .exit id=>some (.exit id)
 | .ret=>some .ret
 | _=>none
abbrev OE (l:List (Option Nat × SB)):DC:=.region [] [⟨none,l⟩]
def Ci (P:Program) (f:FuncId) (fz:List Nat):Option DF:=match P.funcs[f]? with
 | some fn=>match fn.body with
  | some c=>match fV P fn.ntmps fz c,dR P fn.results.toList,bX P f with
   | some sc,some rs,true=>some ⟨sc,rs,fn.ntmps⟩
   | _,_,_=>none
  | none=>none
 | none=>none
end Gv

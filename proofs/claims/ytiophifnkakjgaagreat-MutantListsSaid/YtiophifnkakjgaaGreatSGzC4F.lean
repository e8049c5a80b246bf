/-
  Part 6 of the proof: what the machine does and what the functions answer.
  Conditions: those that each lemma names.
-/
import Derived.Test.YtiophifnkakjgaaGreatSGzC4E
set_option linter.unusedSimpArgs false
set_option linter.unusedVariables false
set_option maxRecDepth 100000
set_option maxHeartbeats 20000000
namespace Gv
noncomputable section
open Go Go.Proofs
structure Term where
 name:ByteArray
 level:Int
 assoc:Int
structure bf where
 left:Int
 right:List Int
 prec:Int
structure ak where
 ax:List Term
 av:List ByteArray
 rules:List bf
 start:Int
instance:Inhabited Term:=⟨⟨.empty,0,0⟩⟩
instance:Inhabited bf:=⟨⟨0,[],0⟩⟩
def df (t:Term):List V:=[gs t.name,gi t.level,gi t.assoc]
def aQ (r:bf):List V:=[gi r.left,encI r.right,gi r.prec]
def encS (l:List ByteArray):V:=.aY (l.map λs=>[gs s])
def aj (g:ak):List V:=[.aY (g.ax.map df),encS g.av,.aY (g.rules.map aQ),gi g.start]
theorem eA {α:Type} (l:List α) (f:α->List V) (h:∀x∈l,∀v∈f x,Tree v):Tree (.aY (l.map f)):=by
 refine .aY _ λi j hi a=>?_
 simp only[abc] at hi
 have e:(l.map f).getD i []=f l[i]:=by simp[hi]
 rw[e] at a ⊢
 have b:(f l[i]).getD j .any=(f l[i])[j]:=by simp[a]
 rw[b]
 exact h _ (abe _) _ (abe _)
theorem bW (cs:List V) (h:∀v∈cs,Tree v):Tree (.agg cs):=by
 refine .agg _ λi hi=>?_
 have a:cs.getD i .any=cs[i]:=by simp[hi]
 rw[a];exact h _ (abe _)
theorem CL (l:List ByteArray):Tree (encS l):=eA _ _ λx _ v a=>by simp at a;subst a;exact .val _
theorem wT (t:Term):∀v∈df t,Tree v:=by intro v a;simp[df] at a;rcases a with rfl | rfl | rfl<;>exact .val _
theorem gh (r:bf):∀v∈aQ r,Tree v:=by
 intro v a;simp[aQ] at a;rcases a with rfl | rfl | rfl
 .exact .val _
 .exact bg _
 .exact .val _
theorem cy (g:ak):∀v∈aj g,Tree v:=by
 intro v a;simp[aj] at a;rcases a with rfl | rfl | rfl | rfl
 .exact eA _ _ λx _=>wT x
 .exact CL _
 .exact eA _ _ λx _=>gh x
 .exact .val _
def bm (x:Int):Prop:=-9223372036854775808<=x/\x<=9223372036854775807
structure ak.Ok (g:ak):Prop where
 ax:aG g.ax
 av:aG g.av
 rules:aG g.rules
 start:bm g.start
 term:∀t∈g.ax,bm t.level/\bm t.assoc
 aB:∀r∈g.rules,bm r.left/\bm r.prec/\aG r.right/\∀x∈r.right,bm x
def dS (g:ak) (s:Int):Bool:=if 0<=s then decide (s<g.ax.length) else decide (-1-s<g.av.length)
def uE:SF:=⟨ai [ag [bZ 2 0,bb 4 false],ai [ag [af 5 1,aI 6 .geq 5 0],aX 6 (ai [ag [af 7 1,aw 8 0 2,au 9 8,aM 10 9,aS 11 .lss 7 10,af 4 11],.ret])],ag [af 12 1,((some 13),.op (.arith .sub (.val (.val (.int .i64 (-1)))) (.tmp 12))),aw 14 1 2,au 15 14,aM 16 15,aS 17 .lss 13 16,af 4 17],.ret],
 [.tmp 4],18⟩
theorem zL:aJ aa 74 [2]=some uE:=by kernel_rfl
theorem Ze (g:ak) (s:Int) (a:bm s) (H:View):az aa 74 [.agg (aj g),gi s] H λr H'=>r=gb (dS g s)/\H'=H:=by
 refine az.of mixed zL ?_
 obtain⟨h1,b⟩:=a
 simp(disch:=omega)only[↓wr,seval,wq,uE,aj,encS]
 apply ao.dec<;>intro h
 .simp(disch:=omega)only[↓wr,seval,wq]
  simp[dS,show (0:Int)<=s from h]
 .simp(disch:=omega)only[↓wr,seval,wq]
  simp[dS,show ¬ (0:Int)<=s from h]
theorem Sr (g:ak) (s:Int) (b:bm s):aC aa 74 [.agg (aj g),gi s] (gb (dS g s)):=
 aC.of (by
  intro v a;simp at a
  rcases a with rfl | rfl
  .exact bW _ (cy g)
  .exact .val _) ((Ze g s b _).mono λr H' h c _=>by rw[h.1];exact .tree _ (.val _))
def p8 (g:ak):Bool:=decide (40<g.ax.length)||decide (40<g.av.length)||decide (60<g.rules.length)||g.rules.any λr=>decide (20<r.right.length)
def pe:SC:=
 ai [ai [ag [af 20 3,aw 21 2 1,au 22 21,aM 23 22,aS 24 .lss 20 23],bO 24 (.exit 0)],.block 1 (ai [ag [aw 27 2 1,au 28 27,af 29 3,aL 30 3 28 29,aw 31 1 30,au 32 31,aM 33 32,aI 34 .gtr 33 20],aX 34 (ai [ag [bb 2 true],.ret])]),ag [af 25 3,aI 26 .add 25 1,af 3 26]]
def rJ:SF:=⟨ai [ag [bZ 1 0,bb 2 false],ai [.region false [⟨none,[aw 4 0 1,au 5 4,aM 6 5,aI 7 .gtr 6 40,af 8 7]⟩,⟨(some (8,false)),[aw 9 1 1,au 10 9,aM 11 10,aI 12 .gtr 11 40]⟩,⟨none,[cJ 13 8 12,af 14 13]⟩,⟨(some (14,false)),[aw 15 2 1,au 16 15,aM 17 16,aI 18 .gtr 17 60]⟩,⟨none,[cJ 19 14 18]⟩],aX 19 (ai [ag [bb 2 true],.ret])],ai [ag [aT 3 0],bR 0 pe],ag [bb 2 false],.ret],
 [.tmp 2],35⟩
theorem xI:aJ aa 14 [1]=some rJ:=by kernel_rfl
theorem Wy (g:ak) (H:View):az aa 14 [.agg (aj g)] H λr H'=>r=gb (p8 g)/\H'=H:=by
 refine az.of mixed xI ?_
 simp(disch:=omega)only[↓wr,seval,wq,rJ,aj,encS]
 apply ao.dec<;>intro h1
 .simp(disch:=omega)only[↓wr,seval,wq]
  simp[p8,show 40<g.ax.length by omega]
 .simp(disch:=omega)only[↓wr,seval,wq]
  apply ao.dec<;>intro d
  .simp(disch:=omega)only[↓wr,seval,wq]
   simp[p8,show 40<g.av.length by omega]
  .simp(disch:=omega)only[↓wr,seval,wq]
   apply ao.dec<;>intro f
   .simp(disch:=omega)only[↓wr,seval,wq]
    simp[p8,show 60<g.rules.length by omega]
   .simp(disch:=omega)only[↓wr,seval,wq]
    refine aW.intro (λk T H'=>∃i:Nat,i+k=g.rules.length/\(∀r∈g.rules.take i,¬ 20<r.right.length)/\T 1=.aR (aj g) 0/\T 3=gi i/\H'=H) g.rules.length ?_ ?_
    .exact⟨0,by omega,by simp,rfl,rfl,rfl⟩
    .rintro k T H' ⟨i,hk,hi,a,b,rfl⟩
     simp(disch:=omega)only[↓wr,seval,wq,pe,a,b,aj]
     apply ao.dec<;>intro h
     .have c:g.rules[i]?=some (g.rules[i]'(by omega)):=aa8 (by omega)
      simp(disch:=omega)only[↓wr,seval,wq,a,b,aj,aQ,encI,aba,c]
      apply ao.dec<;>intro j
      .simp(disch:=omega)only[↓wr,seval,wq]
       have:g.rules.any (λr=>decide (20<r.right.length))=true:=by
        simp only[acE,abn]
        exact⟨g.rules[i]'(by omega),abe _,by omega⟩
       simp[p8,this]
      .simp(disch:=omega)only[↓wr,seval,wq,a,b]
       refine⟨k-1,by omega,i+1,by omega,?_,rfl,rfl⟩
       intro r hr
       rw[abr,c] at hr
       simp only[Option.toList_some,abq,ab5] at hr
       rcases hr with hr | rfl
       .exact hi r hr
       .omega
     .simp(disch:=omega)only[↓wr,seval,wq]
      have e:i=g.rules.length:=by omega
      rw[abo (by omega)] at hi
      have:g.rules.any (λr=>decide (20<r.right.length))=false:=by
       simp only[List.any_eq_false,abn];exact hi
      simp only[p8,this]
      simp;omega
def fB (l:List Int) (is:List Bool) (ax:Bool):Bool:=l.all λs=>if 0<=s then ax else is.getD (-1-s).toNat false
def rN:SC:=
 ai [ai [ag [af 8 7,af 9 0,aM 10 9,aS 11 .lss 8 10],bO 11 (.exit 0)],.block 1 (ai [.region false [⟨none,[af 14 0,af 15 7,aL 16 1 14 15,au 17 16,aI 18 .geq 17 0,af 19 18]⟩,⟨(some (19,true)),[af 20 2,cO 21 20]⟩,⟨none,[dA 22 19 21,af 23 22]⟩,⟨(some (23,false)),[af 24 0,af 25 7,aL 26 1 24 25,au 27 26,aI 28 .lss 27 0,af 29 28]⟩,⟨(some (29,true)),[af 30 1,af 31 0,af 32 7,aL 33 1 31 32,au 34 33,((some 35),.op (.arith .sub (.val (.val (.int .i64 (-1)))) (.tmp 34))),aL 36 1 30 35,au 37 36,cO 38 37]⟩,⟨(some (23,false)),[dA 39 29 38]⟩,⟨none,[cJ 40 23 39]⟩],aX 40 (ai [ag [bb 6 false],.ret])]),ag [af 12 7,aI 13 .add 12 1,af 7 13]]
def uu:SF:=⟨ai [ag [bb 6 false],ai [ag [aT 7 0],bR 0 rN],ag [bb 6 true],.ret],
 [.tmp 6],41⟩
theorem Ap:aJ aa 95 []=some uu:=by kernel_rfl
theorem Y2 (l:List Int) (is:List Bool) (t:Bool) (p:aG l) (q:∀s∈l,bm s/\(s<0->-1-s<is.length)) (H:View):
  az aa 95 [encI l,bY is,gb t] H λr H'=>r=gb (fB l is t)/\H'=H:=by
 refine az.of mixed Ap ?_
 unfold aG at p
 simp(disch:=omega)only[↓wr,seval,wq,uu]
 refine aW.intro (λk T H'=>∃i:Nat,i+k=l.length/\fB (l.take i) is t=true/\T 0=encI l/\T 1=bY is/\T 2=gb t/\T 7=gi i/\H'=H) l.length ?_ ?_
 .exact⟨0,by omega,by simp[fB],rfl,rfl,rfl,rfl,rfl⟩
 .rintro k T H' ⟨i,hk,hi,d,h1,f,g,rfl⟩
  simp(disch:=omega)only[↓wr,seval,wq,rN,d,g,encI]
  apply ao.dec<;>intro u
  .have h:l[i]?=some (l[i]'(by omega)):=aa8 (by omega)
   have hm:l[i]'(by omega)∈l:=abe _
   generalize l[i]'(by omega)=s at h hm
   obtain⟨⟨v,w⟩,x⟩:=q s hm
   have a:fB (l.take (i+1)) is t=(if 0<=s then t else is.getD (-1-s).toNat false):=by
    rw[abr,h]
    simp only[fB,Option.toList_some,adn,acj,List.all_nil,Bool.and_true] at hi ⊢
    rw[hi,abQ]
   have c:(if 0<=s then t else is.getD (-1-s).toNat false)=false->fB l is t=false:=by
    intro j
    simp only[fB,ac9]
    exact⟨s,hm,by simpa using j⟩
   simp(disch:=omega)only[↓wr,seval,wq,d,g,encI,aba,h]
   apply ao.dec<;>intro n
   .rw[abb (show 0<=s from n)] at a c
    cases t with
    | true =>
     simp(disch:=omega)only[↓wr,seval,wq,d,f,g,encI,aba,h]
     refine ao.dec (λm=>absurd m (by omega)) (λ_=>?_)
     simp(disch:=omega)only[↓wr,seval,wq,d,h1,f,g,encI,bY]
     exact⟨k-1,by omega,i+1,by omega,a,rfl⟩
    | false =>
     simp(disch:=omega)only[↓wr,seval,wq,d,h1,f,g,encI]
     rw[c rfl]
   .rw[aa9 (show ¬ 0<=s from n)] at a c
    simp(disch:=omega)only[↓wr,seval,wq,d,g,encI,aba,h]
    refine ao.dec (λm=>?_) (λm=>absurd m (by omega))
    have j:is[(-1-s).toNat]?=some (is[(-1-s).toNat]'(by omega)):=aa8 (by omega)
    have o:is.getD (-1-s).toNat false=is[(-1-s).toNat]'(by omega):=by simp[j]
    rw[o] at a c
    generalize is[(-1-s).toNat]'(by omega)=b at j a c
    simp(disch:=omega)only[↓wr,seval,wq,d,h1,g,encI,bY,aba,h,j]
    cases b with
    | true =>
     simp(disch:=omega)only[↓wr,seval,wq,d,h1,f,g,encI,bY]
     exact⟨k-1,by omega,i+1,by omega,a,rfl⟩
    | false =>
     simp(disch:=omega)only[↓wr,seval,wq,d,h1,f,g,encI,bY]
     rw[c rfl]
  .simp(disch:=omega)only[↓wr,seval,wq]
   have e:i=l.length:=by omega
   rw[abo (by omega)] at hi
   rw[hi]
abbrev gy (x:Int):V:=.val (.int .u8 x)
def y7 (c:Int):Bool:=(decide (97<=c)&&decide (c<=122))||(decide (65<=c)&&decide (c<=90))||c==95
def pW (c:Int):Bool:=y7 c||(decide (48<=c)&&decide (c<=57))||c==46
def rE:SF:=⟨ai [ag [bb 2 false],.region false [⟨none,[af 3 0,((some 4),.op (.arith .geq (.tmp 3) (.val (.val (.int .u8 97))))),af 5 4]⟩,⟨(some (5,true)),[af 6 0,((some 7),.op (.arith .leq (.tmp 6) (.val (.val (.int .u8 122)))))]⟩,⟨none,[dA 8 5 7,af 9 8]⟩,⟨(some (9,false)),[af 10 0,((some 11),.op (.arith .geq (.tmp 10) (.val (.val (.int .u8 65))))),af 12 11]⟩,⟨(some (12,true)),[af 13 0,((some 14),.op (.arith .leq (.tmp 13) (.val (.val (.int .u8 90)))))]⟩,⟨(some (9,false)),[dA 15 12 14]⟩,⟨none,[cJ 16 9 15,af 17 16]⟩,⟨(some (17,false)),[af 18 0,((some 19),.op (.arith .eql (.tmp 18) (.val (.val (.int .u8 95)))))]⟩,⟨none,[cJ 20 17 19,af 2 20]⟩],.ret],
 [.tmp 2],21⟩
theorem xE:aJ aa 233 []=some rE:=by kernel_rfl
def rp:SF:=⟨ai [ag [bb 2 false],.region false [⟨none,[af 3 0,aU 4 233 [3],af 5 4]⟩,⟨(some (5,false)),[af 6 0,((some 7),.op (.arith .geq (.tmp 6) (.val (.val (.int .u8 48))))),af 8 7]⟩,⟨(some (8,true)),[af 9 0,((some 10),.op (.arith .leq (.tmp 9) (.val (.val (.int .u8 57)))))]⟩,⟨(some (5,false)),[dA 11 8 10]⟩,⟨none,[cJ 12 5 11,af 13 12]⟩,⟨(some (13,false)),[af 14 0,((some 15),.op (.arith .eql (.tmp 14) (.val (.val (.int .u8 46)))))]⟩,⟨none,[cJ 16 13 15,af 2 16]⟩],.ret],
 [.tmp 2],17⟩
theorem x6:aJ aa 234 []=some rp:=by kernel_rfl
theorem Wa (c:Int) (H:View):az aa 233 [gy c] H λr H'=>r=gb (y7 c)/\H'=H:=by
 refine az.of mixed xE ?_
 repeat' (first | ((first|apply ao.dec|apply ao.eq|apply ao.ne|apply ao.split)<;>intro)|(simp(disch:=omega)only[↓wr,seval,wq,rE]))
 all_goals (congr 2;simp only[y7];grind)
theorem LV (c:Int):aC aa 233 [gy c] (gb (y7 c)):=
 aC.of (by intro v a;simp at a;subst a;exact .val _) ((Wa c _).mono λr H' h b _=>by rw[h.1];exact .tree _ (.val _))
theorem Vj (c:Int) (H:View):az aa 234 [gy c] H λr H'=>r=gb (pW c)/\H'=H:=by
 refine az.of mixed x6 ?_
 repeat' (first | ((first|apply ao.dec|apply ao.eq|apply ao.ne|apply ao.split)<;>intro)|(simp(disch:=omega)only[↓wr,seval,wq,rp]))
 refine ay.pure (LV c) ?_
 repeat' (first | ((first|apply ao.dec|apply ao.eq|apply ao.ne|apply ao.split)<;>intro)|(simp(disch:=omega)only[↓wr,seval,wq]))
 all_goals (congr 2;simp only[pW];grind)
theorem WA (c:Int):aC aa 234 [gy c] (gb (pW c)):=
 aC.of (by intro v a;simp at a;subst a;exact .val _) ((Vj c _).mono λr H' h b _=>by rw[h.1];exact .tree _ (.val _))
def iN (l:List Int):Bool:=decide (0<l.length)&&decide (l.length<=20)&&(match l with | c::_=>y7 c | []=>false)&&l.all pW
def qY:SC:=
 ai [ai [ag [af 18 3,af 19 0,((some 20),.op (.rV (.tmp 19))),aS 21 .lss 18 20],bO 21 (.exit 0)],.block 1 (ai [ag [af 24 0,af 25 3,((some 26),.op (.js (.tmp 24) (.tmp 25))),aU 27 234 [26],cO 28 27],aX 28 (ai [ag [bb 2 false],.ret])]),ag [af 22 3,aI 23 .add 22 1,af 3 23]]
def sU:SF:=⟨ai [ag [bb 2 false],ai [.region false [⟨none,[af 4 0,((some 5),.op (.rV (.tmp 4))),aI 6 .eql 5 0,af 7 6]⟩,⟨(some (7,false)),[af 8 0,((some 9),.op (.rV (.tmp 8))),aI 10 .gtr 9 20]⟩,⟨none,[cJ 11 7 10,af 12 11]⟩,⟨(some (12,false)),[af 13 0,((some 14),.op (.js (.tmp 13) (.val (.val (.int .i64 0))))),aU 15 233 [14],cO 16 15]⟩,⟨none,[cJ 17 12 16]⟩],aX 17 (ai [ag [bb 2 false],.ret])],ai [ag [aT 3 0],bR 0 qY],ag [bb 2 true],.ret],
 [.tmp 2],29⟩
theorem yk:aJ aa 172 []=some sU:=by kernel_rfl
theorem Rw (s:ByteArray) (H:View):az aa 172 [gs s] H λr H'=>r=gb (iN (gG s))/\H'=H:=by
 refine az.of mixed yk ?_
 repeat' (first | ((first|apply ao.dec|apply ao.eq|apply ao.ne|apply ao.split)<;>intro)|(simp(disch:=omega)only[↓wr,seval,wq,sU,fO]))
 .rename_i h
  congr 2;simp[iN,show (gG s).length=0 by omega]
 .rename_i h
  congr 2;simp[iN,show ¬ (gG s).length<=20 by omega]
 .rename_i h1 g
  cases a:gG s with
  | nil=>simp[a] at h1
  | cons c l =>
   repeat' (first | ((first|apply ao.dec|apply ao.eq|apply ao.ne|apply ao.split)<;>intro)|(simp(disch:=omega)only[↓wr,seval,wq,abB]))
   refine ay.pure (LV c) ?_
   repeat' (first | ((first|apply ao.dec|apply ao.eq|apply ao.ne|apply ao.split)<;>intro)|(simp(disch:=omega)only[↓wr,seval,wq]))
   .rename_i j
    refine aW.intro (λk T H'=>∃i:Nat,i+k=(c::l).length/\((c::l).take i).all pW=true/\T 0=gs s/\T 3=gi i/\H'=H) (c::l).length ?_ ?_
    .exact⟨0,by omega,by simp,rfl,rfl,rfl⟩
    .rintro k T H' ⟨i,hk,hi,b,e,rfl⟩
     rw[a] at h1 g
     simp(disch:=omega)only[↓wr,seval,wq,qY,b,e,fO,a]
     apply ao.dec<;>intro m
     .simp only[abl] at m hk g
      have f:(c::l)[i]?=some ((c::l)[i]'(by simp;omega)):=aa8 (by simp;omega)
      have hm:(c::l)[i]'(by simp;omega)∈c::l:=abe _
      generalize (c::l)[i]'(by simp;omega)=d at f hm
      simp(disch:=omega)only[↓wr,seval,wq,b,e,a,f]
      refine ay.pure (WA d) ?_
      repeat' (first | ((first|apply ao.dec|apply ao.eq|apply ao.ne|apply ao.split)<;>intro)|(simp(disch:=omega)only[↓wr,seval,wq,b,e]))
      .rename_i n
       refine⟨k-1,by omega,i+1,by omega,?_,rfl⟩
       rw[abr,f]
       simp only[Option.toList_some,adn,hi,acj,n,List.all_nil,Bool.and_self]
      .rename_i n
       congr 2
       have:(c::l).all pW=false:=by
        rw[ac9];exact⟨d,hm,by simp[n]⟩
       simp only[iN,this,acK]
     .simp(disch:=omega)only[↓wr,seval,wq]
      simp only[abl] at m hk g
      rw[abo (by simp;omega)] at hi
      congr 2
      simp only[iN,hi,abl]
      simp[j];omega
   .rename_i j
    congr 2;simp[iN,j]
def oW:List Int->Bool
 | [a,b,c]=>a==39&&c==39&&decide (32<=b)&&decide (b<=126)&&b != 39&&b != 92
 | [a,b,c,d]=>a==39&&d==39&&b==92&&(c==110||c==116||c==92||c==39)
 | _=>false
theorem WU {l:List Int} (a:l.length≠3) (b:l.length≠4):oW l=false:=by
 match l,a,b with
 | [],_,_=>rfl
 | [_],_,_=>rfl
 | [_,_],_,_=>rfl
 | [_,_,_],a,_=>exact absurd rfl a
 | [_,_,_,_],_,b=>exact absurd rfl b
 | _::_::_::_::_::_,_,_=>rfl
theorem aaI {α:Type} {l:List α} (h:l.length=3):∃a b c,l=[a,b,c]:=by
 match l,h with
 | [a,b,c],_=>exact⟨a,b,c,rfl⟩
theorem aat {α:Type} {l:List α} (h:l.length=4):∃a b c d,l=[a,b,c,d]:=by
 match l,h with
 | [a,b,c,d],_=>exact⟨a,b,c,d,rfl⟩
def pK:SF:=⟨ai [ag [bb 2 false],ai [ag [af 3 0,((some 4),.op (.rV (.tmp 3))),aI 5 .eql 4 3],aX 5 (ai [.region false [⟨none,[af 6 0,((some 7),.op (.js (.tmp 6) (.val (.val (.int .i64 0))))),((some 8),.op (.arith .eql (.tmp 7) (.val (.val (.int .u8 39))))),af 9 8]⟩,⟨(some (9,true)),[af 10 0,((some 11),.op (.js (.tmp 10) (.val (.val (.int .i64 2))))),((some 12),.op (.arith .eql (.tmp 11) (.val (.val (.int .u8 39)))))]⟩,⟨none,[dA 13 9 12,af 14 13]⟩,⟨(some (14,true)),[af 15 0,((some 16),.op (.js (.tmp 15) (.val (.val (.int .i64 1))))),((some 17),.op (.arith .geq (.tmp 16) (.val (.val (.int .u8 32)))))]⟩,⟨none,[dA 18 14 17,af 19 18]⟩,⟨(some (19,true)),[af 20 0,((some 21),.op (.js (.tmp 20) (.val (.val (.int .i64 1))))),((some 22),.op (.arith .leq (.tmp 21) (.val (.val (.int .u8 126)))))]⟩,⟨none,[dA 23 19 22,af 24 23]⟩,⟨(some (24,true)),[af 25 0,((some 26),.op (.js (.tmp 25) (.val (.val (.int .i64 1))))),((some 27),.op (.arith .neq (.tmp 26) (.val (.val (.int .u8 39)))))]⟩,⟨none,[dA 28 24 27,af 29 28]⟩,⟨(some (29,true)),[af 30 0,((some 31),.op (.js (.tmp 30) (.val (.val (.int .i64 1))))),((some 32),.op (.arith .neq (.tmp 31) (.val (.val (.int .u8 92)))))]⟩,⟨none,[dA 33 29 32,af 2 33]⟩],.ret])],.region false [⟨none,[af 34 0,((some 35),.op (.rV (.tmp 34))),aI 36 .eql 35 4,af 37 36]⟩,⟨(some (37,true)),[af 38 0,((some 39),.op (.js (.tmp 38) (.val (.val (.int .i64 0))))),((some 40),.op (.arith .eql (.tmp 39) (.val (.val (.int .u8 39)))))]⟩,⟨none,[dA 41 37 40,af 42 41]⟩,⟨(some (42,true)),[af 43 0,((some 44),.op (.js (.tmp 43) (.val (.val (.int .i64 3))))),((some 45),.op (.arith .eql (.tmp 44) (.val (.val (.int .u8 39)))))]⟩,⟨none,[dA 46 42 45,af 47 46]⟩,⟨(some (47,true)),[af 48 0,((some 49),.op (.js (.tmp 48) (.val (.val (.int .i64 1))))),((some 50),.op (.arith .eql (.tmp 49) (.val (.val (.int .u8 92)))))]⟩,⟨none,[dA 51 47 50,af 52 51]⟩,⟨(some (52,true)),[af 53 0,((some 54),.op (.js (.tmp 53) (.val (.val (.int .i64 2))))),((some 55),.op (.arith .eql (.tmp 54) (.val (.val (.int .u8 110))))),af 56 55]⟩,⟨(some (56,false)),[af 57 0,((some 58),.op (.js (.tmp 57) (.val (.val (.int .i64 2))))),((some 59),.op (.arith .eql (.tmp 58) (.val (.val (.int .u8 116)))))]⟩,⟨(some (52,true)),[cJ 60 56 59,af 61 60]⟩,⟨(some (61,false)),[af 62 0,((some 63),.op (.js (.tmp 62) (.val (.val (.int .i64 2))))),((some 64),.op (.arith .eql (.tmp 63) (.val (.val (.int .u8 92)))))]⟩,⟨(some (52,true)),[cJ 65 61 64,af 66 65]⟩,⟨(some (66,false)),[af 67 0,((some 68),.op (.js (.tmp 67) (.val (.val (.int .i64 2))))),((some 69),.op (.arith .eql (.tmp 68) (.val (.val (.int .u8 39)))))]⟩,⟨(some (52,true)),[cJ 70 66 69]⟩,⟨none,[dA 71 52 70,af 2 71]⟩],.ret],
 [.tmp 2],72⟩
theorem wg:aJ aa 232 []=some pK:=by kernel_rfl
def rm:SF:=⟨ai [ag [bb 2 false],.region false [⟨none,[af 3 0,aU 4 172 [3],af 5 4]⟩,⟨(some (5,false)),[af 6 0,aU 7 232 [6]]⟩,⟨none,[cJ 8 5 7,af 2 8]⟩],.ret],
 [.tmp 2],9⟩
theorem x9:aJ aa 169 []=some rm:=by kernel_rfl
theorem Wh (s:ByteArray) (H:View):az aa 232 [gs s] H λr H'=>r=gb (oW (gG s))/\H'=H:=by
 refine az.of mixed wg ?_
 simp(disch:=omega)only[↓wr,seval,wq,pK,fO]
 apply ao.eq<;>intro h
 .obtain⟨a,b,c,e⟩:=aaI (l:=gG s) (by omega)
  repeat' (first | ((first|apply ao.dec|apply ao.eq|apply ao.ne|apply ao.split)<;>intro)|(simp(disch:=omega)only[↓wr,seval,wq,e,abB,abT]))
  all_goals (congr 2;simp only[oW];grind)
 .simp(disch:=omega)only[↓wr,seval,wq,fO]
  apply ao.eq<;>intro f
  .obtain⟨a,b,c,d,e⟩:=aat (l:=gG s) (by omega)
   repeat' (first | ((first|apply ao.dec|apply ao.eq|apply ao.ne|apply ao.split)<;>intro)|(simp(disch:=omega)only[↓wr,seval,wq,e,abB,abT]))
   all_goals (congr 2;simp only[oW];grind)
  .repeat' (first | ((first|apply ao.dec|apply ao.eq|apply ao.ne|apply ao.split)<;>intro)|(simp(disch:=omega)only[↓wr,seval,wq]))
   rw[WU (by omega) (by omega)]
theorem rT (s:ByteArray):∀v∈[gs s],Tree v:=by intro v a;simp at a;subst a;exact .val _
theorem It (s:ByteArray):aC aa 172 [gs s] (gb (iN (gG s))):=
 aC.of (rT s) ((Rw s _).mono λr H' h a _=>by rw[h.1];exact .tree _ (.val _))
theorem Wn (s:ByteArray):aC aa 232 [gs s] (gb (oW (gG s))):=
 aC.of (rT s) ((Wh s _).mono λr H' h a _=>by rw[h.1];exact .tree _ (.val _))
def te (l:List Int):Bool:=iN l||oW l
theorem QU (s:ByteArray) (H:View):az aa 169 [gs s] H λr H'=>r=gb (te (gG s))/\H'=H:=by
 refine az.of mixed x9 ?_
 simp(disch:=omega)only[↓wr,seval,wq,rm]
 refine ay.pure (It s) ?_
 repeat' (first | ((first|apply ao.dec|apply ao.eq|apply ao.ne|apply ao.split)<;>intro)|(simp(disch:=omega)only[↓wr,seval,wq]))
 .rename_i h;simp[te,h]
 .rename_i h
  refine ay.pure (Wn s) ?_
  repeat' (first | ((first|apply ao.dec|apply ao.eq|apply ao.ne|apply ao.split)<;>intro)|(simp(disch:=omega)only[↓wr,seval,wq]))
  simp[te,h]
theorem Q0 (s:ByteArray):aC aa 169 [gs s] (gb (te (gG s))):=
 aC.of (rT s) ((QU s _).mono λr H' h a _=>by rw[h.1];exact .tree _ (.val _))
def qz (s:ByteArray):List ByteArray->Int->Int
 | [],_=>-1
 | x::l,i=>if jM x s=true then i else qz s l (i+1)
def u7 (g:ak) (s:ByteArray):Int:=qz s (g.ax.map Term.name) 0
def Hu (g:ak) (s:ByteArray):Int:=qz s g.av 0
theorem eO {α:Type} {l:List α} {i:Nat} (h:i<l.length):l.drop i=l[i]::l.drop (i+1):=abS h
theorem KB (g:ak) (s:ByteArray):∀v∈[V.agg (aj g),gs s],Tree v:=by
 intro v a;simp at a
 rcases a with rfl | rfl
 .exact bW _ (cy g)
 .exact .val _
theorem dy (g:ak):∀v∈[V.agg (aj g)],Tree v:=by intro v a;simp at a;subst a;exact bW _ (cy g)
theorem KC (g:ak) (x:Int):∀v∈[V.agg (aj g),gi x],Tree v:=by
 intro v a;simp at a
 rcases a with rfl | rfl
 .exact bW _ (cy g)
 .exact .val _
theorem aC.val {P:Program} {f:FuncId} {vs:List V} {x:Value} (a:∀v∈vs,Tree v) (h:∀H,az P f vs H λr _=>r=.val x):aC P f vs (.val x):=
 aC.of a ((h _).mono λr H' e b _=>by rw[e];exact .tree _ (.val _))
def qD:SC:=
 ai [ai [ag [af 6 5,aw 7 0 2,au 8 7,aM 9 8,aS 10 .lss 6 9],bO 10 (.exit 0)],.block 1 (ai [ag [aw 13 0 2,au 14 13,af 15 5,aL 16 3 14 15,aw 17 0 16,au 18 17,af 19 1,((some 20),.op (.AO .eql (.tmp 18) (.tmp 19)))],aX 20 (ai [ag [af 21 5,af 4 21],.ret])]),ag [af 11 5,aI 12 .add 11 1,af 5 12]]
def sP:SF:=⟨ai [ag [bZ 2 0,aT 4 0],ai [ag [aT 5 0],bR 0 qD],ag [aT 4 (-1)],.ret],
 [.tmp 4],22⟩
theorem yT:aJ aa 170 [2]=some sP:=by kernel_rfl
def rF:SC:=
 ai [ai [ag [af 6 5,aw 7 1 2,au 8 7,aM 9 8,aS 10 .lss 6 9],bO 10 (.exit 0)],.block 1 (ai [ag [aw 13 1 2,au 14 13,af 15 5,aL 16 1 14 15,au 17 16,af 18 1,((some 19),.op (.AO .eql (.tmp 17) (.tmp 18)))],aX 19 (ai [ag [af 20 5,af 4 20],.ret])]),ag [af 11 5,aI 12 .add 11 1,af 5 12]]
def uF:SF:=⟨ai [ag [bZ 2 0,aT 4 0],ai [ag [aT 5 0],bR 0 rF],ag [aT 4 (-1)],.ret],
 [.tmp 4],21⟩
theorem zy:aJ aa 150 [2]=some uF:=by kernel_rfl
def pL:SC:=
 ai [ai [ag [af 8 6,aw 9 0 2,au 10 9,aM 11 10,aS 12 .lss 8 11],bO 12 (.exit 0)],.block 1 (ai [.region false [⟨none,[aw 15 0 2,au 16 15,af 17 6,aL 18 3 16 17,aV 19 3 18,((some 7),.op (.alloc [(.val (.string ⟨#[]⟩)),(.val (.int .i64 0)),(.val (.int .i64 0))])),cz 3 7 19]⟩],ai [ag [aw 20 1 7,au 21 20,af 22 1,aS 23 .neq 21 22],aX 23 (.exit 1)],ai [.region false [⟨none,[af 24 5,aI 25 .neq 24 0,af 26 25]⟩,⟨(some (26,true)),[af 27 5,aw 28 2 7,au 29 28,aS 30 .neq 27 29]⟩,⟨none,[dA 31 26 30]⟩],aX 31 (ai [ag [bb 4 false],.ret])],ag [aw 32 2 7,au 33 32,af 5 33]]),ag [af 13 6,aI 14 .add 13 1,af 6 14]]
def rD:SF:=⟨ai [ag [bZ 2 0,bb 4 false],ag [aT 5 0],ai [ag [aT 6 0],bR 0 pL],ag [af 34 5,aI 35 .neq 34 0,af 4 35],.ret],
 [.tmp 4],36⟩
theorem xD:aJ aa 171 [2]=some rD:=by kernel_rfl
theorem Tw (g:ak) (e:g.Ok) (s:ByteArray) (H:View):az aa 170 [.agg (aj g),gs s] H λr _=>r=gi (u7 g s):=by
 refine az.of mixed yT ?_
 have h:g.ax.length<4611686018427387904:=e.ax
 simp(disch:=omega)only[↓wr,seval,wq,sP,aj,encS]
 refine aW.intro (λk T _=>∃i:Nat,i+k=g.ax.length/\qz s ((g.ax.drop i).map Term.name) i=u7 g s/\T 1=gs s/\T 2=.aR (aj g) 0/\T 5=gi i) g.ax.length ?_ ?_
 .exact⟨0,by omega,rfl,rfl,rfl,rfl⟩
 .rintro k T H' ⟨i,hk,hi,h1,a,b⟩
  simp(disch:=omega)only[↓wr,seval,wq,qD,a,b,aj]
  apply ao.dec<;>intro f
  .have c:g.ax[i]?=some (g.ax[i]'(by omega)):=aa8 (by omega)
   rw[eO (show i<g.ax.length by omega)] at hi
   generalize g.ax[i]'(by omega)=t at c hi
   simp only[abE,qz] at hi
   simp(disch:=omega)only[↓wr,seval,wq,h1,a,b,aj,df,aba,c]
   apply ao.split<;>intro d
   .rw[abb d] at hi
    simp(disch:=omega)only[↓wr,seval,wq,h1,a,b]
    rw[hi]
   .rw[d,aa9 (by simp)] at hi
    simp(disch:=omega)only[↓wr,seval,wq,h1,a,b]
    exact⟨k-1,by omega,i+1,by omega,by push_cast;exact hi,rfl,rfl⟩
  .rw[aby (by omega)] at hi
   simp only[acJ,qz] at hi
   simp(disch:=omega)only[↓wr,seval,wq]
   rw[hi]
theorem Jl (g:ak) (a:g.Ok) (s:ByteArray):aC aa 170 [.agg (aj g),gs s] (gi (u7 g s)):=aC.val (KB g s) (Tw g a s)
theorem VZ (g:ak) (e:g.Ok) (s:ByteArray) (H:View):az aa 150 [.agg (aj g),gs s] H λr _=>r=gi (Hu g s):=by
 refine az.of mixed zy ?_
 have h:g.av.length<4611686018427387904:=e.av
 simp(disch:=omega)only[↓wr,seval,wq,uF,aj,encS]
 refine aW.intro (λk T _=>∃i:Nat,i+k=g.av.length/\qz s (g.av.drop i) i=Hu g s/\T 1=gs s/\T 2=.aR (aj g) 0/\T 5=gi i) g.av.length ?_ ?_
 .exact⟨0,by omega,rfl,rfl,rfl,rfl⟩
 .rintro k T H' ⟨i,hk,hi,h1,a,b⟩
  simp(disch:=omega)only[↓wr,seval,wq,rF,a,b,aj,encS]
  apply ao.dec<;>intro f
  .have c:g.av[i]?=some (g.av[i]'(by omega)):=aa8 (by omega)
   rw[eO (show i<g.av.length by omega)] at hi
   generalize g.av[i]'(by omega)=t at c hi
   simp only[qz] at hi
   simp(disch:=omega)only[↓wr,seval,wq,h1,a,b,aj,encS,aba,c]
   apply ao.split<;>intro d
   .rw[abb d] at hi
    simp(disch:=omega)only[↓wr,seval,wq,h1,a,b]
    rw[hi]
   .rw[d,aa9 (by simp)] at hi
    simp(disch:=omega)only[↓wr,seval,wq,h1,a,b]
    exact⟨k-1,by omega,i+1,by omega,by push_cast;exact hi,rfl,rfl⟩
  .rw[aby (by omega)] at hi
   simp only[qz] at hi
   simp(disch:=omega)only[↓wr,seval,wq]
   rw[hi]
theorem V9 (g:ak) (a:g.Ok) (s:ByteArray):aC aa 150 [.agg (aj g),gs s] (gi (Hu g s)):=aC.val (KB g s) (VZ g a s)
def kL (n:Int):List Term->Int->Option Int
 | [],Ik=>some Ik
 | t::r,Ik=>if t.level=n then (if Ik≠0/\Ik≠t.assoc then none else kL n r t.assoc) else kL n r Ik
def iX (l:List Term) (n:Int):Bool:=match kL n l 0 with
 | some w=>w != 0
 | none=>false
theorem Py (g:ak) (l:g.Ok) (n:Int) (H:View):az aa 171 [.agg (aj g),gi n] H λr _=>r=gb (iX g.ax n):=by
 refine az.of mixed xD ?_
 have p:g.ax.length<4611686018427387904:=l.ax
 simp(disch:=omega)only[↓wr,seval,wq,rD,aj,encS]
 refine aW.intro (λk T _=>∃(i:Nat) (w:Int),i+k=g.ax.length/\kL n (g.ax.drop i) w=kL n g.ax 0/\T 1=gi n/\T 2=.aR (aj g) 0/\T 5=gi w/\T 6=gi i) g.ax.length ?_ ?_
 .exact⟨0,0,by omega,rfl,rfl,rfl,rfl,rfl⟩
 .rintro k T H' ⟨i,w,hk,hi,h1,c,d,f⟩
  simp(disch:=omega)only[↓wr,seval,wq,pL,c,f,aj]
  apply ao.dec<;>intro o
  .have h:g.ax[i]?=some (g.ax[i]'(by omega)):=aa8 (by omega)
   rw[eO (show i<g.ax.length by omega)] at hi
   generalize g.ax[i]'(by omega)=t at h hi
   simp only[kL] at hi
   simp(disch:=omega)only[↓wr,seval,wq,h1,c,f,aj,df,aba,h]
   intro m hm
   try simp(disch:=omega)only[↓wr,seval,wq,h1,c,d,f]
   apply ao.ne<;>intro j
   .rw[aa9 j] at hi
    simp(disch:=omega)only[↓wr,seval,wq,h1,c,d,f]
    exact⟨k-1,by omega,i+1,w,by omega,hi,by first | rfl | exact⟨rfl,rfl⟩ | exact⟨rfl,rfl,rfl⟩⟩
   .rw[abb j] at hi
    repeat' (first | ((first|apply ao.dec|apply ao.eq|apply ao.ne|apply ao.split)<;>intro)|(simp(disch:=omega)only[↓wr,seval,wq,h1,c,d,f]))
    .rename_i a b
     rw[abb ⟨a,b⟩] at hi
     simp only[iX,<-hi]
    .rename_i a b
     rw[aa9 (λe=>e.2 b)] at hi
     exact⟨k-1,by omega,i+1,_,by omega,hi,by first | rfl | exact⟨rfl,rfl⟩ | exact⟨rfl,rfl,rfl⟩⟩
    .rename_i a
     rw[aa9 (λe=>e.1 a)] at hi
     exact⟨k-1,by omega,i+1,_,by omega,hi,by first | rfl | exact⟨rfl,rfl⟩ | exact⟨rfl,rfl,rfl⟩⟩
  .rw[aby (by omega)] at hi
   simp only[kL] at hi
   simp(disch:=omega)only[↓wr,seval,wq,d]
   simp only[iX,<-hi]
theorem Q3 (g:ak) (a:g.Ok) (n:Int):aC aa 171 [.agg (aj g),gi n] (gb (iX g.ax n)):=aC.val (KC g n) (Py g a n)
def xu (g:ak) (t:Term):Bool:=(List.range t.level.toNat).all λk=>iX g.ax ((k:Int)+1)
def np (g:ak) (i:Int) (t:Term):Bool:=
 te (gG t.name)&&(u7 g t.name==i)&&decide (0<=t.level)&&decide (t.level<=24)&&decide (0<=t.assoc)&&decide (t.assoc<=3)&&((t.level==0)==(t.assoc==0))&&xu g t
def q9 (g:ak):List Term->Int->Bool
 | [],_=>true
 | t::r,i=>np g i t&&q9 g r (i+1)
def mQ (g:ak):Bool:=decide (g.ax.length<=24)&&q9 g g.ax 0
def pa:SC:=
 ai [ai [ag [af 63 5,aw 64 1 4,au 65 64,aS 66 .leq 63 65],bO 66 (.exit 2)],.block 3 (ai [ag [aV 69 4 1,af 70 5,aU 71 171 [69,70],cO 72 71],aX 72 (ai [ag [bb 2 false],.ret])]),ag [af 67 5,aI 68 .add 67 1,af 5 68]]
def ph:SC:=
 ai [ai [ag [af 10 3,aw 11 0 1,au 12 11,aM 13 12,aS 14 .lss 10 13],bO 14 (.exit 0)],.block 1 (ai [.region false [⟨none,[aw 17 0 1,au 18 17,af 19 3,aL 20 3 18 19,aV 21 3 20,((some 4),.op (.alloc [(.val (.string ⟨#[]⟩)),(.val (.int .i64 0)),(.val (.int .i64 0))])),cz 3 4 21]⟩],ai [.region false [⟨none,[aw 22 0 4,au 23 22,aU 24 169 [23],cO 25 24,af 26 25]⟩,⟨(some (26,false)),[aV 27 4 1,aw 28 0 4,au 29 28,aU 30 170 [27,29],af 31 3,aS 32 .neq 30 31]⟩,⟨none,[cJ 33 26 32,af 34 33]⟩,⟨(some (34,false)),[aw 35 1 4,au 36 35,aI 37 .lss 36 0]⟩,⟨none,[cJ 38 34 37,af 39 38]⟩,⟨(some (39,false)),[aw 40 1 4,au 41 40,aI 42 .gtr 41 24]⟩,⟨none,[cJ 43 39 42,af 44 43]⟩,⟨(some (44,false)),[aw 45 2 4,au 46 45,aI 47 .lss 46 0]⟩,⟨none,[cJ 48 44 47,af 49 48]⟩,⟨(some (49,false)),[aw 50 2 4,au 51 50,aI 52 .gtr 51 3]⟩,⟨none,[cJ 53 49 52,af 54 53]⟩,⟨(some (54,false)),[aw 55 1 4,au 56 55,aI 57 .eql 56 0,aw 58 2 4,au 59 58,aI 60 .eql 59 0,((some 61),.op (.beq false (.tmp 57) (.tmp 60)))]⟩,⟨none,[cJ 62 54 61]⟩],aX 62 (ai [ag [bb 2 false],.ret])],ag [aT 5 1],bR 2 pa]),ag [af 15 3,aI 16 .add 15 1,af 3 16]]
def rS:SF:=⟨ai [ag [bZ 1 0,bb 2 false],ai [ag [aw 6 0 1,au 7 6,aM 8 7,aI 9 .gtr 8 24],aX 9 (ai [ag [bb 2 false],.ret])],ai [ag [aT 3 0],bR 0 ph],ag [bb 2 true],.ret],
 [.tmp 2],73⟩
theorem x8:aJ aa 104 [1]=some rS:=by kernel_rfl
def qi:SC:=
 ai [ai [ag [af 14 3,aw 15 1 1,au 16 15,aM 17 16,aS 18 .lss 14 17],bO 18 (.exit 0)],.block 1 (ai [.region false [⟨none,[aw 21 1 1,au 22 21,af 23 3,aL 24 1 22 23,au 25 24,aU 26 172 [25],cO 27 26,af 28 27]⟩,⟨(some (28,false)),[aV 29 4 1,aw 30 1 1,au 31 30,af 32 3,aL 33 1 31 32,au 34 33,aU 35 150 [29,34],af 36 3,aS 37 .neq 35 36]⟩,⟨none,[cJ 38 28 37,af 39 38]⟩,⟨(some (39,false)),[aV 40 4 1,aw 41 1 1,au 42 41,af 43 3,aL 44 1 42 43,au 45 44,aU 46 170 [40,45],aI 47 .geq 46 0]⟩,⟨none,[cJ 48 39 47]⟩],aX 48 (ai [ag [bb 2 false],.ret])]),ag [af 19 3,aI 20 .add 19 1,af 3 20]]
def tU:SF:=⟨ai [ag [bZ 1 0,bb 2 false],ai [.region false [⟨none,[aw 4 1 1,au 5 4,aM 6 5,aI 7 .lss 6 1,af 8 7]⟩,⟨(some (8,false)),[aw 9 1 1,au 10 9,aM 11 10,aI 12 .gtr 11 16]⟩,⟨none,[cJ 13 8 12]⟩],aX 13 (ai [ag [bb 2 false],.ret])],ai [ag [aT 3 0],bR 0 qi],ag [bb 2 true],.ret],
 [.tmp 2],49⟩
theorem zb:aJ aa 105 [1]=some tU:=by kernel_rfl
def qu:SC:=
 ai [ai [ag [af 23 5,aw 24 1 3,au 25 24,aM 26 25,aS 27 .lss 23 26],bO 27 (.exit 0)],.block 1 (ai [.region false [⟨none,[aV 30 4 2,aw 31 1 3,au 32 31,af 33 5,aL 34 1 32 33,au 35 34,aU 36 74 [30,35],cO 37 36,af 38 37]⟩,⟨(some (38,false)),[aw 39 1 3,au 40 39,af 41 5,aL 42 1 40 41,au 43 42,aI 44 .geq 43 0,af 45 44]⟩,⟨(some (45,true)),[aw 46 2 3,au 47 46,aI 48 .eql 47 (-1)]⟩,⟨(some (38,false)),[dA 49 45 48]⟩,⟨none,[cJ 50 38 49]⟩],aX 50 (ai [ag [bb 4 false],.ret])]),ag [af 28 5,aI 29 .add 28 1,af 5 29]]
def s9:SF:=⟨ai [ag [bZ 2 0,bZ 3 1,bb 4 false],ai [.region false [⟨none,[aw 6 1 3,au 7 6,aM 8 7,aI 9 .gtr 8 6,af 10 9]⟩,⟨(some (10,false)),[aw 11 2 3,au 12 11,aI 13 .lss 12 (-1)]⟩,⟨none,[cJ 14 10 13,af 15 14]⟩,⟨(some (15,false)),[aw 16 2 3,au 17 16,aw 18 0 2,au 19 18,aM 20 19,aS 21 .geq 17 20]⟩,⟨none,[cJ 22 15 21]⟩],aX 22 (ai [ag [bb 4 false],.ret])],ai [ag [aT 5 0],bR 0 qu],ag [bb 4 true],.ret],
 [.tmp 4],51⟩
theorem zj:aJ aa 106 [2,3]=some s9:=by kernel_rfl
def pG:SC:=
 ai [ai [ag [af 39 4,aw 40 2 1,au 41 40,aM 42 41,aS 43 .lss 39 42],bO 43 (.exit 0)],.block 1 (ai [ag [aw 46 2 1,au 47 46,af 48 4,aL 49 3 47 48,aV 50 3 49,((some 5),.op (.alloc [(.val (.int .i64 0)),(.emp 1),(.val (.int .i64 0))])),cz 3 5 50],ai [.region false [⟨none,[aw 51 0 5,au 52 51,aI 53 .lss 52 0,af 54 53]⟩,⟨(some (54,false)),[aw 55 0 5,au 56 55,af 57 3,aI 58 .add 57 1,aS 59 .gtr 56 58]⟩,⟨none,[cJ 60 54 59,af 61 60]⟩,⟨(some (61,false)),[aV 62 4 1,aV 63 3 5,aU 64 106 [62,63],cO 65 64]⟩,⟨none,[cJ 66 61 65]⟩],aX 66 (ai [ag [bb 2 false],.ret])],ag [aw 67 0 5,au 68 67,af 69 3,aS 70 .gtr 68 69],aX 70 (ag [aw 71 0 5,au 72 71,af 3 72])]),ag [af 44 4,aI 45 .add 44 1,af 4 45]]
def rn:SF:=⟨ai [ag [bZ 1 0,bb 2 false],ai [.region false [⟨none,[aV 6 4 1,aU 7 104 [6],cO 8 7,af 9 8]⟩,⟨(some (9,false)),[aV 10 4 1,aU 11 105 [10],cO 12 11]⟩,⟨none,[cJ 13 9 12,af 14 13]⟩,⟨(some (14,false)),[aw 15 2 1,au 16 15,aM 17 16,aI 18 .lss 17 1]⟩,⟨none,[cJ 19 14 18,af 20 19]⟩,⟨(some (20,false)),[aw 21 2 1,au 22 21,aM 23 22,aI 24 .gtr 23 40]⟩,⟨none,[cJ 25 20 24,af 26 25]⟩,⟨(some (26,false)),[aw 27 3 1,au 28 27,aI 29 .lss 28 0]⟩,⟨none,[cJ 30 26 29,af 31 30]⟩,⟨(some (31,false)),[aw 32 3 1,au 33 32,aw 34 1 1,au 35 34,aM 36 35,aS 37 .geq 33 36]⟩,⟨none,[cJ 38 31 37]⟩],aX 38 (ai [ag [bb 2 false],.ret])],ag [aT 3 (-1)],ai [ag [aT 4 0],bR 0 pG],ag [af 73 3,aw 74 1 1,au 75 74,aM 76 75,aI 77 .sub 76 1,aS 78 .eql 73 77,af 2 78],.ret],
 [.tmp 2],79⟩
theorem x5:aJ aa 50 [1]=some rn:=by kernel_rfl
theorem Qi (g:ak) (p:g.Ok) (H:View):az aa 104 [.agg (aj g)] H λr _=>r=gb (mQ g):=by
 refine az.of mixed x8 ?_
 simp(disch:=omega)only[↓wr,seval,wq,rS,aj,encS]
 apply ao.dec<;>intro h
 .simp(disch:=omega)only[↓wr,seval,wq]
  simp[mQ,show ¬ g.ax.length<=24 by omega]
 .have hle:g.ax.length<=24:=by omega
  simp(disch:=omega)only[↓wr,seval,wq]
  refine aW.intro (λk T _=>∃i:Nat,i+k=g.ax.length/\q9 g (g.ax.drop i) i=q9 g g.ax 0/\T 1=.aR (aj g) 0/\T 3=gi i) g.ax.length ?_ ?_
  .exact⟨0,by omega,rfl,rfl,rfl⟩
  .rintro k T H' ⟨i,hk,hi,h1,d⟩
   simp(disch:=omega)only[↓wr,seval,wq,ph,h1,d,aj]
   apply ao.dec<;>intro z
   .have f:g.ax[i]?=some (g.ax[i]'(by omega)):=aa8 (by omega)
    rw[eO (show i<g.ax.length by omega)] at hi
    have b:g.ax[i]'(by omega)∈g.ax:=abe _
    generalize g.ax[i]'(by omega)=t at f hi b
    obtain⟨⟨A,B⟩,⟨C,D⟩⟩:=p.term t b
    simp only[q9] at hi
    have a:np g i t=false->gb false=gb (mQ g):=λe=>by rw[e,acq] at hi;simp[mQ,<-hi]
    simp(disch:=omega)only[↓wr,seval,wq,h1,d,aj,df,aba,f]
    intro m hm
    try simp(disch:=omega)only[↓wr,seval,wq,h1,d]
    refine ay.pure (Q0 t.name) ?_
    repeat' (first | ((first|apply ao.dec|apply ao.eq|apply ao.ne|apply ao.split)<;>intro)|(simp(disch:=omega)only[↓wr,seval,wq,h1,d,aj]))
    all_goals try (refine a ?_;simp[np, *];done)
    rename_i s
    refine ay.pure (Jl g p t.name) ?_
    repeat' (first | ((first|apply ao.dec|apply ao.eq|apply ao.ne|apply ao.split)<;>intro)|(simp(disch:=omega)only[↓wr,seval,wq,h1,d,aj]))
    all_goals try (refine a ?_;simp[np, *];done)
    all_goals try (refine a ?_;simp[np];grind)
    rename_i E K L M N F
    have c:np g i t=xu g t:=by
     have u:((t.level==0)==(t.assoc==0))=true:=by simpa using F
     simp[np,s,E,u,show (0:Int)<=t.level by omega,show t.level<=24 by omega,show (0:Int)<=t.assoc by omega,show t.assoc<=3 by omega]
    refine aW.intro (λv T l=>∃j:Nat,1<=j/\j+v=t.level.toNat+1/\(∀q:Nat,q+1<j->iX g.ax ((q:Int)+1)=true)/\T 1=.aR (aj g) 0/\T 3=gi i/\T 4=.ptr m 0 0/\l m=.arr 3 [[gs t.name,gi t.level,gi t.assoc]]/\T 5=gi j) t.level.toNat ?_ ?_
    .refine⟨1,by omega,by omega,λq w=>by omega,?_⟩
     simp(disch:=omega)only[↓wr,↓reduceIte,wq,Nat.reduceEqDiff,Nat.reduceAdd,h1,d,aj]
     rfl
    .rintro v O l ⟨j,G,I,n,f1,f3,f4,o,f5⟩
     simp(disch:=omega)only[↓wr,seval,wq,pa,f4,f5,o]
     apply ao.dec<;>intro J
     .simp(disch:=omega)only[↓wr,seval,wq,f1,f5,aj]
      refine ay.pure (Q3 g p j) ?_
      repeat' (first | ((first|apply ao.dec|apply ao.eq|apply ao.ne|apply ao.split)<;>intro)|(simp(disch:=omega)only[↓wr,seval,wq,f1,f3,f4,f5,o,aj]))
      .rename_i x
       refine⟨v-1,by omega,j+1,by omega,by omega,λq w=>?_,by first | rfl | exact⟨rfl,rfl⟩ | exact⟨rfl,rfl,rfl⟩⟩
       by_cases e:q+1=j
       .have:(q:Int)+1=j:=by omega
        rw[this];exact x
       .exact n q (by omega)
      .rename_i x
       refine a ?_
       rw[c,xu,ac9]
       refine⟨j-1,by simp;omega,?_⟩
       have:((j-1:Nat):Int)+1=j:=by omega
       rw[this,x];simp
     .simp(disch:=omega)only[↓wr,seval,wq,f1,f3]
      refine⟨k-1,by omega,i+1,by omega,?_,by first | rfl | exact⟨rfl,rfl⟩ | exact⟨rfl,rfl,rfl⟩⟩
      have y:xu g t=true:=by
       rw[xu,abC]
       intro q w
       exact n q (by simp at w;omega)
      rw[c,y,abQ] at hi
      push_cast;exact hi
   .rw[aby (by omega)] at hi
    simp only[q9] at hi
    simp(disch:=omega)only[↓wr,seval,wq]
    simp[mQ,hle,<-hi]
theorem Qb (g:ak) (a:g.Ok):aC aa 104 [.agg (aj g)] (gb (mQ g)):=aC.val (dy g) (Qi g a)
def sj (g:ak) (i:Int) (s:ByteArray):Bool:=iN (gG s)&&(Hu g s==i)&&decide (u7 g s<0)
def u9 (g:ak):List ByteArray->Int->Bool
 | [],_=>true
 | s::r,i=>sj g i s&&u9 g r (i+1)
def oD (g:ak):Bool:=decide (1<=g.av.length)&&decide (g.av.length<=16)&&u9 g g.av 0
theorem Ug (g:ak) (h:g.Ok) (H:View):az aa 105 [.agg (aj g)] H λr _=>r=gb (oD g):=by
 refine az.of mixed zb ?_
 repeat' (first | ((first|apply ao.dec|apply ao.eq|apply ao.ne|apply ao.split)<;>intro)|(simp(disch:=omega)only[↓wr,seval,wq,tU,aj,encS]))
 .simp[oD,show ¬ 1<=g.av.length by omega]
 .simp[oD,show ¬ g.av.length<=16 by omega]
 .have hle:g.av.length<=16:=by omega
  refine aW.intro (λk T _=>∃i:Nat,i+k=g.av.length/\u9 g (g.av.drop i) i=u9 g g.av 0/\T 1=.aR (aj g) 0/\T 3=gi i) g.av.length ?_ ?_
  .exact⟨0,by omega,rfl,rfl,rfl⟩
  .rintro k T H' ⟨i,hk,hi,h1,c⟩
   simp(disch:=omega)only[↓wr,seval,wq,qi,h1,c,aj,encS]
   apply ao.dec<;>intro j
   .have b:g.av[i]?=some (g.av[i]'(by omega)):=aa8 (by omega)
    rw[eO (show i<g.av.length by omega)] at hi
    generalize g.av[i]'(by omega)=t at b hi
    simp only[u9] at hi
    have a:sj g i t=false->gb false=gb (oD g):=λe=>by rw[e,acq] at hi;simp[oD,<-hi]
    simp(disch:=omega)only[↓wr,seval,wq,h1,c,aj,encS,aba,b]
    refine ay.pure (It t) ?_
    repeat' (first | ((first|apply ao.dec|apply ao.eq|apply ao.ne|apply ao.split)<;>intro)|(simp(disch:=omega)only[↓wr,seval,wq,h1,c,aj,encS,aba,b]))
    all_goals try (refine a ?_;simp[sj, *];done)
    rename_i d
    refine ay.pure (V9 g h t) ?_
    repeat' (first | ((first|apply ao.dec|apply ao.eq|apply ao.ne|apply ao.split)<;>intro)|(simp(disch:=omega)only[↓wr,seval,wq,h1,c,aj,encS,aba,b]))
    all_goals try (refine a ?_;simp[sj, *];done)
    rename_i f
    refine ay.pure (Jl g h t) ?_
    repeat' (first | ((first|apply ao.dec|apply ao.eq|apply ao.ne|apply ao.split)<;>intro)|(simp(disch:=omega)only[↓wr,seval,wq,h1,c,aj,encS]))
    all_goals try (refine a ?_;simp[sj, *];done)
    rename_i l
    refine⟨k-1,by omega,i+1,by omega,?_,by first | rfl | exact⟨rfl,rfl⟩ | exact⟨rfl,rfl,rfl⟩⟩
    have:sj g i t=true:=by simp[sj,d,f,show u7 g t<0 by omega]
    rw[this,abQ] at hi
    push_cast;exact hi
   .rw[aby (by omega)] at hi
    simp only[u9] at hi
    simp(disch:=omega)only[↓wr,seval,wq]
    simp[oD,hle,show 1<=g.av.length by omega,<-hi]
theorem Sa (g:ak) (a:g.Ok):aC aa 105 [.agg (aj g)] (gb (oD g)):=aC.val (dy g) (Ug g a)
def r8 (g:ak) (prec s:Int):Bool:=dS g s && !(decide (0<=s)&&prec == -1)
def kz (g:ak) (r:bf):Bool:=decide (r.right.length<=6)&&decide (-1<=r.prec)&&decide (r.prec<g.ax.length)&&r.right.all (r8 g r.prec)
theorem Ll (g:ak) (r:bf):∀v∈[V.agg (aj g),V.agg (aQ r)],Tree v:=by
 intro v a;simp at a
 rcases a with rfl | rfl
 .exact bW _ (cy g)
 .exact bW _ (gh r)
theorem SJ (g:ak) (r:bf) (hr:aG r.right/\∀x∈r.right,bm x) (H:View):az aa 106 [.agg (aj g),.agg (aQ r)] H λv _=>v=gb (kz g r):=by
 refine az.of mixed zj ?_
 repeat' (first | ((first|apply ao.dec|apply ao.eq|apply ao.ne|apply ao.split)<;>intro)|(simp(disch:=omega)only[↓wr,seval,wq,s9,aj,encS,aQ,encI]))
 .simp[kz,show ¬ r.right.length<=6 by omega]
 .simp[kz,show ¬ -1<=r.prec by omega]
 .simp[kz,show ¬ r.prec<g.ax.length by omega]
 .have hle:r.right.length<=6:=by omega
  have j : -1<=r.prec:=by omega
  have l:r.prec<g.ax.length:=by omega
  refine aW.intro (λk T _=>∃i:Nat,i+k=r.right.length/\(r.right.drop i).all (r8 g r.prec)=r.right.all (r8 g r.prec)/\T 2=.aR (aj g) 0/\T 3=.aR (aQ r) 0/\T 5=gi i) r.right.length ?_ ?_
  .exact⟨0,by omega,rfl,rfl,rfl,rfl⟩
  .rintro k T H' ⟨i,hk,hi,d,f,h⟩
   simp(disch:=omega)only[↓wr,seval,wq,qu,f,h,aQ,encI]
   apply ao.dec<;>intro o
   .have b:r.right[i]?=some (r.right[i]'(by omega)):=aa8 (by omega)
    rw[eO (show i<r.right.length by omega)] at hi
    have a:r.right[i]'(by omega)∈r.right:=abe _
    generalize r.right[i]'(by omega)=t at b hi a
    have m:=hr.2 t a
    simp only[acj] at hi
    have c:r8 g r.prec t=false->gb false=gb (kz g r):=λe=>by rw[e,acq] at hi;simp only[kz,<-hi,acK]
    have n:r8 g r.prec t=true->(r.right.drop (i+1)).all (r8 g r.prec)=r.right.all (r8 g r.prec):=λe=>by rw[e,abQ] at hi;exact hi
    simp(disch:=omega)only[↓wr,seval,wq,d,f,h,aj,encS,aQ,encI,aba,b]
    refine ay.pure (Sr g t m) ?_
    repeat' (first | ((first|apply ao.dec|apply ao.eq|apply ao.ne|apply ao.split)<;>intro)|(simp(disch:=omega)only[↓wr,seval,wq,d,f,h,aj,encS,aQ,encI,aba,b]))
    all_goals first
     | (refine c ?_;simp[r8, *];done)
     | (refine⟨k-1,by omega,i+1,by omega,n (by simp[r8, *];done),by first | rfl | exact⟨rfl,rfl⟩ | exact⟨rfl,rfl,rfl⟩⟩)
     | skip
   .rw[aby (by omega)] at hi
    simp only[List.all_nil] at hi
    simp(disch:=omega)only[↓wr,seval,wq]
    simp only[kz,hle,j,l,decide_true,abQ,<-hi]
theorem Ru (g:ak) (r:bf) (hr:aG r.right/\∀x∈r.right,bm x):aC aa 106 [.agg (aj g),.agg (aQ r)] (gb (kz g r)):=aC.val (Ll g r) (SJ g r hr)
def kJ (g:ak):List bf->Int->Bool
 | [],top=>top==(g.av.length:Int)-1
 | r::l,top=>decide (0<=r.left)&&decide (r.left<=top+1)&&kz g r&&kJ g l (if r.left>top then r.left else top)
def bu (g:ak):Bool:=
 mQ g&&oD g&&decide (1<=g.rules.length)&&decide (g.rules.length<=40)&&decide (0<=g.start)&&decide (g.start<g.av.length)&&kJ g g.rules (-1)
theorem QN (g:ak) (h:g.Ok) (H:View):az aa 50 [.agg (aj g)] H λr _=>r=gb (bu g):=by
 refine az.of mixed x5 ?_
 have o:=h.av
 unfold aG at o
 simp(disch:=omega)only[↓wr,seval,wq,rn,aj,encS]
 refine ay.pure (Qb g h) ?_
 repeat' (first | ((first|apply ao.dec|apply ao.eq|apply ao.ne|apply ao.split)<;>intro)|(simp(disch:=omega)only[↓wr,seval,wq]))
 .rename_i h1
  refine ay.pure (Sa g h) ?_
  repeat' (first | ((first|apply ao.dec|apply ao.eq|apply ao.ne|apply ao.split)<;>intro)|(simp(disch:=omega)only[↓wr,seval,wq]))
  all_goals try (simp[bu, *];done)
  all_goals try (simp[bu];omega)
  rename_i p y z A B
  have hle:g.rules.length<=40:=by omega
  have a:∀b,kJ g g.rules (-1)=b->gb b=gb (bu g):=λb e=>by
   simp[bu,h1,p,show 1<=g.rules.length by omega,hle,show 0<=g.start by omega,show g.start<g.av.length by omega,e]
  refine aW.intro (λk T _=>∃(i:Nat) (w:Int),i+k=g.rules.length/\-1<=w/\w<i/\kJ g (g.rules.drop i) w=kJ g g.rules (-1)/\T 1=.aR (aj g) 0/\T 3=gi w/\T 4=gi i) g.rules.length ?_ ?_
  .exact⟨0,-1,by omega,by omega,by omega,rfl,rfl,rfl,rfl⟩
  .rintro k T H' ⟨i,w,hk,q,s,hi,f1,f3,f4⟩
   simp(disch:=omega)only[↓wr,seval,wq,pG,f1,f4,aj]
   apply ao.dec<;>intro u
   .have d:g.rules[i]?=some (g.rules[i]'(by omega)):=aa8 (by omega)
    rw[eO (show i<g.rules.length by omega)] at hi
    have c:g.rules[i]'(by omega)∈g.rules:=abe _
    generalize g.rules[i]'(by omega)=t at d hi c
    obtain⟨⟨v,x⟩,hp,j,l⟩:=h.aB t c
    simp only[kJ] at hi
    simp(disch:=omega)only[↓wr,seval,wq,f1,f4,aj,encS,aQ,encI,aba,d]
    intro m hm
    try simp(disch:=omega)only[↓wr,seval,wq,f1,f3,f4]
    repeat' (first | ((first|apply ao.dec|apply ao.eq|apply ao.ne|apply ao.split)<;>intro)|(simp(disch:=omega)only[↓wr,seval,wq,f1,f3,f4,aj,encS]))
    all_goals try (refine a _ ?_;simp only[<-hi];simp;omega)
    rename_i C D
    refine ay.pure (Ru g t ⟨j,l⟩) ?_
    repeat' (first | ((first|apply ao.dec|apply ao.eq|apply ao.ne|apply ao.split)<;>intro)|(simp(disch:=omega)only[↓wr,seval,wq,f1,f3,f4,aj,encS]))
    all_goals simp only[show 0<=t.left by omega,show t.left<=w+1 by omega,decide_true,abQ] at hi
    .rename_i f n
     rw[f,abQ,abb n] at hi
     exact⟨k-1,by omega,i+1,_,by omega,by omega,by push_cast;omega,hi,by first | rfl | exact⟨rfl,rfl⟩ | exact⟨rfl,rfl,rfl⟩⟩
    .rename_i f n
     rw[f,abQ,aa9 n] at hi
     exact⟨k-1,by omega,i+1,_,by omega,by omega,by push_cast;omega,hi,by first | rfl | exact⟨rfl,rfl⟩ | exact⟨rfl,rfl,rfl⟩⟩
    .rename_i f
     rw[f,acq] at hi
     exact a _ hi.symm
   .rw[aby (by omega)] at hi
    simp only[kJ] at hi
    simp(disch:=omega)only[↓wr,seval,wq,f1,f3,aj,encS]
    exact a _ hi.symm
 .rename_i h1;simp[bu,h1]
theorem jV (g:ak) (a:g.Ok):aC aa 50 [.agg (aj g)] (gb (bu g)):=aC.val (dy g) (QN g a)
inductive c9 (α:Type) where
 | nil
 | node (v:α) (l r:c9 α)
def c9.get {α:Type} (z:α) (t:c9 α):Nat->α:=
 c9.rec (motive:=λ_=>Nat->α) (λ_=>z) (λv _ _ gl gr i=>Bool.rec (Bool.rec (gr (i / 2-1)) (gl (i / 2)) (Nat.beq (i % 2) 1)) v (Nat.beq i 0)) t
theorem c9.get_nil {α:Type} (z:α) (i:Nat):c9.get z .nil i=z:=rfl
theorem c9.WV {α:Type} (z v:α) (l r:c9 α) (i:Nat):c9.get z (.node v l r) i=match Nat.beq i 0 with
  | true=>v
  | false=>match Nat.beq (i % 2) 1 with
   | true=>c9.get z l (i / 2)
   | false=>c9.get z r (i / 2-1):=by
 change (Bool.rec (motive:=λ_=>α) _ _ _:α)=_
 cases Nat.beq i 0 with
 | true=>rfl
 | false=>cases Nat.beq (i % 2) 1<;>rfl
def c9.val {α:Type} (z:α):c9 α->α
 | .nil=>z
 | .node v _ _=>v
def c9.left {α:Type} : c9 α->c9 α
 | .nil=>.nil
 | .node _ l _=>l
def c9.right {α:Type} : c9 α->c9 α
 | .nil=>.nil
 | .node _ _ r=>r
def c9.put {α:Type} (z:α) (x:α) (d:Nat):c9 α->Nat->c9 α:=
 Nat.rec (motive:=λ_=>c9 α->Nat->c9 α) (λt _=>t) (λ_ pd t i =>
  Bool.rec (Bool.rec (.node (t.val z) t.left (pd t.right (i / 2-1))) (.node (t.val z) (pd t.left (i / 2)) t.right) (Nat.beq (i % 2) 1)) (.node x t.left t.right) (Nat.beq i 0)) d
theorem c9.VY {α:Type} (z x:α) (d:Nat) (t:c9 α) (i:Nat):c9.put z x (d+1) t i=match Nat.beq i 0 with
  | true=>.node x t.left t.right
  | false=>match Nat.beq (i % 2) 1 with
   | true=>.node (t.val z) (c9.put z x d t.left (i / 2)) t.right
   | false=>.node (t.val z) t.left (c9.put z x d t.right (i / 2-1)):=by
 change (Bool.rec (motive:=λ_=>c9 α) _ _ _:c9 α)=_
 cases Nat.beq i 0 with
 | true=>rfl
 | false=>cases Nat.beq (i % 2) 1<;>rfl
theorem c9.pO {α:Type} (z:α) (t:c9 α) (j:Nat):t.get z j=if j=0 then t.val z else if j % 2=1 then t.left.get z (j / 2) else t.right.get z (j / 2-1):=by
 cases t with
 | nil=>simp[c9.get_nil,c9.val,c9.left,c9.right]
 | node v l r =>
  simp only[c9.WV,c9.val,c9.left,c9.right]
  by_cases h:j=0
  .subst h;rfl
  .have:Nat.beq j 0=false:=by cases e:Nat.beq j 0 with | true=>exact absurd (ac7 e) h | false=>rfl
   rw[this,aa9 h]
   by_cases a:j % 2=1
   .have:Nat.beq (j % 2) 1=true:=by rw[a];rfl
    rw[this,abb a]
   .have:Nat.beq (j % 2) 1=false:=by cases e:Nat.beq (j % 2) 1 with | true=>exact absurd (ac7 e) a | false=>rfl
    rw[this,aa9 a]
theorem c9.py {α:Type} (z x:α):∀(d:Nat) (t:c9 α) (i j:Nat),i+1<2 ^ d->(c9.put z x d t i).get z j=if j=i then x else t.get z j
 | 0,t,i,j,h=>by simp at h
 | d+1,t,i,j,h=>by
  simp only[c9.VY]
  by_cases hi:i=0
  .subst hi
   have:Nat.beq 0 0=true:=rfl
   simp only
   rw[c9.pO,c9.pO z t]
   simp only[c9.val,c9.left,c9.right]
   by_cases b:j=0
   .rw[abb b,abb b]
   .rw[aa9 b,aa9 b,aa9 b]
  .have:Nat.beq i 0=false:=by cases e:Nat.beq i 0 with | true=>exact absurd (ac7 e) hi | false=>rfl
   rw[this]
   by_cases c:i % 2=1
   .have:Nat.beq (i % 2) 1=true:=by rw[c];rfl
    rw[this]
    rw[c9.pO,c9.pO z t]
    simp only[c9.val,c9.left,c9.right]
    by_cases b:j=0
    .subst b;rw[abb rfl,aa9 (λe=>hi e.symm),abb rfl]
    .rw[aa9 b,aa9 b]
     by_cases a:j % 2=1
     .rw[abb a,abb a,c9.py z x d _ _ _ (by omega)]
      by_cases e:j=i
      .subst e;simp
      .rw[aa9 e,aa9 (by omega)]
     .rw[aa9 a,aa9 a,aa9 (λe=>a (by rw[e];exact c))]
   .have:Nat.beq (i % 2) 1=false:=by cases e:Nat.beq (i % 2) 1 with | true=>exact absurd (ac7 e) c | false=>rfl
    rw[this]
    rw[c9.pO,c9.pO z t]
    simp only[c9.val,c9.left,c9.right]
    by_cases b:j=0
    .subst b;rw[abb rfl,aa9 (λe=>hi e.symm),abb rfl]
    .rw[aa9 b,aa9 b]
     by_cases a:j % 2=1
     .rw[abb a,abb a,aa9 (λe=>c (by rw[<-e];exact a))]
     .rw[aa9 a,aa9 a,c9.py z x d _ _ _ (by omega)]
      by_cases e:j=i
      .subst e;simp
      .rw[aa9 e,aa9 (by omega)]
abbrev deep:Nat:=13
structure ES where
 L:c9 V
 H:c9 ct
 n:Nat
 w:List Nat
def ES.T (s:ES):Env:=s.L.get .any
def ES.V (s:ES):View:=s.H.get .dead
def ES.put (s:ES) (d:Option Nat) (v:Gv.V):ES:=match d with
 | some t=>⟨s.L.put .any v deep t,s.H,s.n,s.w⟩
 | none=>s
theorem ES.Xi {s:ES} {d:Option Nat} {v:Gv.V} (h:∀t,d=some t->t<8000):(s.put d v).T=s.T.put d v:=by
 cases d with
 | none=>rfl
 | some t =>
  funext k
  have:=h t rfl
  simp only[ES.put,ES.T,Env.put]
  rw[c9.py _ _ _ _ _ _ (by simp[deep];omega)]
def Wb (v:V) (eff:bq) (rd:List Nat) (s:ES):Option (V × ES × Rec):=match eff with
 | .none=>some (v,s,⟨rd,[],false,s.n,s.n⟩)
 | .new o=>match Nat.ble s.n 8000 with
  | true=>some (v,⟨s.L,s.H.put .dead o deep s.n,s.n+1,s.w⟩,⟨rd,[],false,s.n,s.n+1⟩)
  | false=>none
 | .fP id o=>match Nat.ble id 8000 with
  | true=>some (v,⟨s.L,s.H.put .dead o deep id,s.n,id::s.w⟩,⟨rd,[id],false,s.n,s.n⟩)
  | false=>none
 | .eW id o=>match Nat.ble s.n 8000,Nat.ble id 8000 with
  | true,true=>some (v,⟨s.L,(s.H.put .dead .dead deep id).put .dead o deep s.n,s.n+1,id::s.w⟩,⟨rd,[id],false,s.n,s.n+1⟩)
  | _,_=>none
def aaD (x:SX) (_:Program) (T:Env) (_:View) (_:Nat):Out:=some (x.at T,.none,[])
def Zp (c a b:SX) (_:Program) (T:Env) (_:View) (_:Nat):Out:=match c.at T with
 | .val (.bool t)=>some (if t then a.at T else b.at T,.none,[])
 | _=>none
def Zq (sz:Option Nat) (a:SX) (_:Program) (T:Env) (H:View) (_:Nat):Out:=zU sz (a.at T) H
def Y3 (sz:Nat) (a x:SX) (_:Program) (T:Env) (H:View) (_:Nat):Out:=F7 sz (a.at T) (x.at T) H
def ZG (off:Nat) (x:SX) (_:Program) (T:Env) (_:View) (_:Nat):Out:=CO off (x.at T)
def aal (sz:Nat) (x i:SX) (_:Program) (T:Env) (_:View) (_:Nat):Out:=Hw sz (x.at T) (i.at T)
def Z9 (x:SX) (_:Program) (T:Env) (_:View) (_:Nat):Out:=(cE (x.at T)).map λn=>(cP n,.none,[])
def Zn (op:BinOp) (x y:SX) (_:Program) (T:Env) (_:View) (_:Nat):Out:=CE op (x.at T) (y.at T)
def ZY (op:BinOp) (x y:SX) (_:Program) (T:Env) (_:View) (_:Nat):Out:=EA op (x.at T) (y.at T)
def aay (x:SX) (_:Program) (T:Env) (_:View) (_:Nat):Out:=match x.at T with
 | .val (.bool t)=>some (.val (.bool (!t)),.none,[])
 | _=>none
def aap (i:Nat) (x:SX) (_:Program) (T:Env) (_:View) (_:Nat):Out:=match x.at T with
 | .bc vs=>if i<vs.length then some (vs.getD i .any,.none,[]) else none
 | _=>none
def ZP (x:SX) (_:Program) (T:Env) (_:View) (_:Nat):Out:=match x.at T with
 | .ptr id i j=>some (.ptr id i j,.none,[])
 | .aR e j=>some (.aR e j,.none,[])
 | .fn f a b=>some (.fn f a b,.none,[])
 | _=>none
def eI (s:SI):Program->Env->View->Nat->Out:=match s with
 | .eW x=>aaD x
 | .pick c a b=>Zp c a b
 | .load sz a=>Zq sz a
 | .store sz a x=>Y3 sz a x
 | .addr o x=>ZG o x
 | .idx sz x i=>aal sz x i
 | .len x=>Z9 x
 | .arith op x y=>Zn op x y
 | .AO op x y=>ZY op x y
 | .not x=>aay x
 | .ext i x=>aap i x
 | .Er x=>ZP x
 | s=>λP T H n=>sI P s T H n
theorem Qv (s:SI) (P:Program) (T:Env) (H:View) (n:Nat):eI s P T H n=sI P s T H n:=by
 cases s<;>rfl
abbrev jw:=FuncId->List V->ES->Option (V × ES)
def Uz (P:Program) (s:SI) (e:ES):Option (V × ES × Rec):=match eI s P e.T e.V e.n with
 | some (v,eff,rd)=>Wb v eff rd e
 | none=>none
def Rz (call:jw) (f:SX) (args:List SX) (e:ES):Option (V × ES × Rec):=match f.at e.T with
 | .fn g first cap=>match call g (first++args.map (SX.at e.T)++cap) e with
  | some (v,e')=>some (v,⟨e.L,e'.H,e'.n,e'.w++e.w⟩,⟨[],e'.w,true,e.n,e'.n⟩)
  | none=>none
 | _=>none
def eB (P:Program) (call:jw) (b:SB):ES->Option (V × ES × Rec):=match b with
 | .op s=>Uz P s
 | .call f args=>Rz call f args
 | .qb ..=>λ_=>none
def Pn (P:Program) (call:jw):List (Option Nat × SB)->List Rec->ES->Option (ES × List Rec)
 | [],a,e=>some (e,a)
 | (d,b)::r,a,e=>match eB P call b e with
  | some (v,e',c)=>Pn P call r (a++[c]) (e'.put d v)
  | none=>none
def Xc (e:ES):Rec:=⟨[],[],false,e.n,e.n⟩
def CN:List (Option Nat × SB)->List Rec->ES->ES × List Rec
 | [],a,e=>(e,a)
 | (d,_)::r,a,e=>CN r (a++[Xc e]) (e.put d (.bc []))
def TV (P:Program) (call:jw) (ops:List (Option Nat × SB)) (want:Bool) (v:V) (a:List Rec) (e:ES):Option (ES × List Rec):=match v with
 | .val (.bool b)=>match xor b want with
  | true=>some (CN ops a e)
  | false=>Pn P call ops a e
 | .bc []=>some (CN ops a e)
 | _=>none
def eG (P:Program) (call:jw) (g:SG) (a:List Rec) (e:ES):Option (ES × List Rec):=match g.guard with
 | none=>Pn P call g.ops a e
 | some (d,want)=>TV P call g.ops want (e.T d) a e
def Sq (P:Program) (call:jw):List SG->List Rec->ES->Option (ES × List Rec)
 | [],a,e=>some (e,a)
 | g::r,a,e=>match eG P call g a e with
  | some (e',a')=>Sq P call r a' e'
  | none=>none
inductive DC where
 | skip
 | region (ps:List (Nat × Nat)) (gs:List SG)
 | seq (x y:DC)
 | cond (c:SX) (x y:DC)
 | block (id:Nat) (c:DC)
 | loop (c:DC)
 | exit (id:Nat)
 | ret
 deriving Inhabited
def Tv (recs:List Rec) (ps:List (Nat × Nat)):Bool:=ps.all λ(i,k)=>match recs[i]?,recs[k]? with
 | some a,some b=>Hf a b
 | _,_=>false
abbrev ER:=Option (Exit × ES)
abbrev AL:=DC->ES->ER
def Zk:ES->ER:=λe=>some (.normal,e)
def Pp (P:Program) (call:jw) (ps:List (Nat × Nat)) (gs:List SG) (e:ES):ER:=match Sq P call gs [] e with
 | some (e',recs)=>match Tv recs ps with
  | true=>some (.normal,e')
  | false=>none
 | none=>none
def YJ (run:AL) (x y:DC) (e:ES):ER:=match run x e with
 | some (.normal,e')=>run y e'
 | r=>r
def Xg (run:AL) (c:SX) (x y:DC) (e:ES):ER:=match c.at e.T with
 | .val (.bool true)=>run x e
 | .val (.bool false)=>run y e
 | _=>none
def R5 (run:AL) (id:Nat) (c:DC) (e:ES):ER:=match run c e with
 | some (r,e')=>some (sy id r,e')
 | none=>none
def Xb (run:AL) (c:DC) (e:ES):ER:=match run c e with
 | some (.normal,e')=>run (.loop c) e'
 | r=>r
def uS (P:Program) (call:jw) (run:AL) (c:DC):ES->ER:=match c with
 | .skip=>Zk
 | .region ps gs=>Pp P call ps gs
 | .seq x y=>YJ run x y
 | .cond c x y=>Xg run c x y
 | .block id c=>R5 run id c
 | .loop c=>Xb run c
 | .exit id=>λe=>some (.exit id,e)
 | .ret=>λe=>some (.ret,e)
def Vv (r:SR) (e:ES):Option V:=match r with
 | .tmp t=>some (e.T t)
 | .cell t sz=>match e.T t with
  | .ptr id i j=>match e.V id with
   | .arr _ es=>if i<es.length then oJ sz (es.getD i []) j else none
   | _=>none
  | .aR e j=>oJ sz e j
  | _=>none
def zX:List SR->ES->Option (List V)
 | [],_=>some []
 | r::l,e=>match Vv r e,zX l e with
  | some v,some vs=>some (v::vs)
  | _,_=>none
def pC:List V->Nat->c9 V->c9 V
 | [],_,t=>t
 | v::vs,i,t=>pC vs (i+1) (t.put .any v deep i)
structure DF where
 code:DC
 res:List SR
 n:Nat
def YM (l:List SR) (r:ER):Option (V × ES):=match r with
 | some (.ret,e)=>(zX l e).map λvs=>(zt vs,e)
 | some (.normal,e)=>(zX l e).map λvs=>(zt vs,e)
 | _=>none
def Zb (m:Nat) (r:Option (V × ES)):Option (V × ES):=match r with
 | some (v,e)=>some (v,⟨e.L,e.H,e.n,e.w.filter λid=>Nat.blt id m⟩)
 | none=>none
def YA (run:AL) (F:DF) (vs:List V) (e:ES):Option (V × ES):=match Nat.ble vs.length F.n,Nat.ble F.n 8000 with
 | true,true=>Zb e.n (YM F.res (run F.code ⟨pC vs 0 .nil,e.H,e.n,[]⟩))
 | _,_=>none
abbrev B9:=FuncId->List V->View->Option V
def J9 (P:Program) (tab:List (FuncId × DF)) (ext:B9) (run:AL) (g:FuncId) (vs:List V) (e:ES):Option (V × ES):=match ext g vs e.V with
 | some t=>some (t,⟨e.L,e.H,e.n,[]⟩)
 | none=>match tab.find? (λp=>Nat.beq p.1 g) with
  | some (_,F)=>YA run F vs e
  | none=>none
def MA (P:Program) (tab:List (FuncId × DF)) (ext:B9):Nat->AL
 | 0=>λ_ _=>none
 | k+1=>uS P (J9 P tab ext (MA P tab ext k)) (MA P tab ext k)
def Fb (all:List Oper) (ls:List Nat):List (Nat × Nat):=
 let b:=gT all []
 (ls.zipIdx.map λ(x,i)=>(ls.zipIdx.filter λ(y,k)=>decide (i<k) && !(ordered b i k||x==0||y==0||(decide (x<=1)&&decide (y<=1)))).map λ(_,k)=>(i,k)).flatten
def Mj (P:Program) (n:Nat) (fz:List Nat) (ops:List Oper) (draw:Bool):Option DC:=match eo P n ops ⟨fz,false⟩ ops with
 | none=>none
 | some l=>if !(group l).all wH then none else
  if draw then (if oB ops then some (.region (Fb ops (l.map λs=>j0 P false s.b)) (group l)) else none) else some (.region [] (group l))
def kx (P:Program) (n:Nat) (fz:List Nat):Code->Option DC
 | .skip=>some .skip
 | .region _ ops draw=>Mj P n fz ops.toList draw
 | .seq x y=>match kx P n fz x,kx P n fz y with
  | some a,some b=>some (.seq a b)
  | _,_=>none
 | .cond c x y=>match kx P n fz x,kx P n fz y with
  | some a,some b=>some (.cond (SX.of c) a b)
  | _,_=>none
 | .block id c=>(kx P n fz c).map (.block id)
 | .loop c=>(kx P n fz c).map .loop
 | .exit id=>some (.exit id)
 | .ret=>some .ret
 | _=>none
abbrev c_s (l:List (Option Nat × SB)):DC:=.region [] [⟨none,l⟩]
def LF (P:Program) (f:FuncId) (fz:List Nat):Option DF:=match P.funcs[f]? with
 | some fn=>match fn.body with
  | some c=>match kx P fn.ntmps fz c,gL P fn.results.toList,eh P f with
   | some sc,some rs,true=>some ⟨sc,rs,fn.ntmps⟩
   | _,_,_=>none
  | none=>none
 | none=>none
section
variable {P:Program} {n:Nat} {all:List Oper}
def jT (h:Heap) (e:ES):Prop:=e.V=h.view/\e.n=h.length
def Calm (e e':ES) (h h':Heap):Prop:=h.length<=h'.length/\(∀id,id<h.length->¬ id∈e'.w->h'.view id=h.view id/\¬ id∈e.w)
theorem Calm.trans {a b c:ES} {h1 e f:Heap} (x:Calm a b h1 e) (y:Calm b c e f):Calm a c h1 f:=
 ⟨abZ x.1 y.1,λid d hw =>
  let ⟨g,d1⟩:=y.2 id (abK d x.1) hw
  let ⟨h,d2⟩:=x.2 id d d1
  ⟨g.trans h,d2⟩⟩
theorem Calm.refl (e:ES) (h:Heap):Calm e e h h:=⟨abg _,λ_ _ hw=>⟨rfl,hw⟩⟩
def mI (P:Program) (call:jw):Prop:=∀g vs e v e' h,call g vs e=some (v,e')->jT h e ->
 eh P g=true/\∃h',b6 P g vs h v h'/\jT h' e'/\(∀id,id<h.length->¬ id∈e'.w->h'.view id=h.view id)/\∀id,id∈e'.w->id<h.length
def zx (P:Program) (run:AL):Prop:=∀(n:Nat) (fz:List Nat) (c:Code) (sc:DC),kx P n fz c=some sc->n<=8000->∀(e e':ES) (r:Exit) (h:Heap),run sc e=some (r,e')->jT h e ->
 ∃h',dB P n c e.T h r e'.T h'/\jT h' e'/\Calm e e' h h'/\∀c0,c=.loop c0->sx P n c0 e.T h r e'.T h'
theorem RB {h:Heap} {e:ES} {d:Option Nat} {v:V} (he:jT h e):jT h (e.put d v):=by cases d<;>exact he
theorem Xo {e:ES} {d:Option Nat} {v:V} : (e.put d v).w=e.w:=by cases d<;>rfl
theorem V1 {h:Heap} {e e':ES} {b:Heap} {d:Option Nat} {v:V} (x:Calm e e' h b):Calm e (e'.put d v) h b:=⟨x.1,λid a hw=>x.2 id a (by rw[Xo] at hw;exact hw)⟩
theorem EW {a:Nat} (h:Nat.ble a 8000=true):a+1<2 ^ 13:=by
 have:=Nat.le_of_ble_eq_true h
 omega
theorem XL {h:Heap} {e e':ES} {v v':V} {eff:bq} {rd:List Nat} {c:Rec} (he:jT h e) (a:Wb v eff rd e=some (v',e',c)):
  v'=v/\e'.T=e.T/\e'.V=eff.view h.view h.length/\e'.n=(eff.apply h).length/\c=⟨rd,eff.wr,false,h.length,(eff.apply h).length⟩/\e'.w=eff.wr++e.w:=by
 obtain⟨h1,b⟩:=he
 unfold Wb at a
 cases eff with
 | none =>
  obtain⟨rfl,rfl,rfl⟩:=a
  exact⟨rfl,rfl,h1,b,by rw[b];rfl,rfl⟩
 | new o =>
  simp only at a
  split at a
  .rename_i d
   obtain⟨rfl,rfl,rfl⟩:=a
   refine⟨rfl,rfl,?_,by simp[iE,b],by simp[iE,b,bq.wr],rfl⟩
   funext k
   simp only[ES.V,bq.view,View.set]
   rw[c9.py _ _ _ _ _ _ (EW d),b]
   have:=congrFun h1 k
   simp only[ES.V] at this
   rw[this]
  .simp at a
 | fP id o =>
  simp only at a
  split at a
  .rename_i d
   obtain⟨rfl,rfl,rfl⟩:=a
   refine⟨rfl,rfl,?_,by simp[iE,b],by simp[iE,b,bq.wr],rfl⟩
   funext k
   simp only[ES.V,bq.view,View.set]
   rw[c9.py _ _ _ _ _ _ (EW d)]
   have:=congrFun h1 k
   simp only[ES.V] at this
   rw[this]
  .simp at a
 | eW id o =>
  simp only at a
  split at a
  .rename_i f g
   obtain⟨rfl,rfl,rfl⟩:=a
   refine⟨rfl,rfl,?_,by simp[iE,b],by simp[iE,b,bq.wr],rfl⟩
   funext k
   simp only[ES.V,bq.view,View.set]
   rw[c9.py _ _ _ _ _ _ (EW f),c9.py _ _ _ _ _ _ (EW g),b]
   have:=congrFun h1 k
   simp only[ES.V] at this
   rw[this]
  .simp at a
theorem Zc {o:Oper} {e e':ES} {h:Heap} {s:SI} {v:V} {c:Rec} (i:dW n all e.T o=some true) (j:∀v eff rd,sI P s e.T h.view h.length=some (v,eff,rd)->cL P o e.T h.view h.length=some (v,eff,rd))
  (he:jT h e) (b:Uz P s e=some (v,e',c)):∃d,eF P n all o e.T h v d c.rd c.wr c.call/\jT d e'/\e'.T=e.T/\Calm e e' h d/\mG (wK P s) c.rd c.wr c.call h.length d.length/\c.lo=h.length/\c.hi=d.length:=by
 unfold Uz at b
 rw[Qv,he.1,he.2] at b
 split at b
 .rename_i v0 eff rd f
  obtain⟨rfl,g1,g2,g3,rfl,g5⟩:=XL he b
  have g:=j _ _ _ f
  have st:=eF.op (P:=P) (n:=n) (all:=all) i g
  refine⟨eff.apply h,st,⟨?_,g3⟩,g1,⟨wC st,λid a hw=>?_⟩,⟨λk=>?_,λh1=>?_⟩,rfl,rfl⟩
  .rw[k9 (λid a=>(o8 g id a).1)];exact g2
  .rw[g5] at hw
   simp only[abq,not_or] at hw
   exact⟨uG st a hw.1,hw.2⟩
  .obtain⟨rfl,rfl⟩:=(vm f).1 k
   exact⟨rfl,rfl,rfl,rfl⟩
  .rcases abH (wK P s) 1 with l | l
   .obtain⟨rfl,rfl⟩:=(vm f).1 (by omega);rfl
   .exact(vm f).2 (by omega)
 .simp at b
theorem Zx {call:jw} (j:mI P call) {q:Fz} {o:Oper} {e e':ES} {h:Heap} {v:V} {c:Rec} (r:dW n all e.T o=some true) (he:jT h e) (a:eB P call (oL P q o) e=some (v,e',c)):
  ∃k,eF P n all o e.T h v k c.rd c.wr c.call/\jT k e'/\e'.T=e.T/\Calm e e' h k/\mG (j0 P false (oL P q o)) c.rd c.wr c.call h.length k.length/\c.lo=h.length/\c.hi=k.length:=by
 rcases Dz P q o with ⟨f,args,C,m,i | i⟩ | ⟨t,x,m,i⟩ | ⟨s,d,x,m,u,i⟩ | i
 rotate_left
 .grind [eB]
 rotate_right
 .rw[i] at a ⊢
  simp only[eB,Rz] at a
  split at a
  .rename_i g first cap A
   rw[Gu] at a
   rw[SX.di] at A
   split at a
   .rename_i v0 G D
    obtain⟨l,k,hr,p,B,w⟩:=j _ _ _ _ _ _ D he
    obtain⟨rfl,rfl,rfl⟩:=a
    exact⟨k,.call r m A l hr B w,p,rfl,⟨hr.1,λid y hw=>by
     simp only[abq,not_or] at hw
     exact⟨B id y hw.1,hw.2⟩⟩,Xl (by simp[j0]),he.2,p.2⟩
   .simp at a
  .simp at a
 .rw[i] at a ⊢
  simp only[eB,Uz,Qv,sI,SX.di] at a
  split at a
  .rename_i v0 eff rd b
   split at b
   .rename_i l
    obtain⟨rfl,rfl,rfl⟩:=b
    obtain⟨rfl,rfl,rfl⟩:=a
    exact⟨h,.kN r m l,he,rfl,Calm.refl _ _,⟨λ_=>⟨rfl,rfl,rfl,rfl⟩,λ_=>rfl⟩,he.2,he.2⟩
   .simp at b
  .simp at a
 .rw[i] at a ⊢
  obtain⟨ty,h1,E,F⟩:=DD u
  simp only[eB,Uz,Qv,sI,SX.di] at a
  split at a
  .rename_i v0 eff rd b
   split at b
   .rename_i st z
    obtain⟨rfl,rfl,rfl⟩:=b
    obtain⟨rfl,rfl,rfl⟩:=a
    exact⟨h,.ia r m h1 E F z,he,rfl,Calm.refl _ _,⟨λ_=>⟨rfl,rfl,rfl,rfl⟩,λ_=>rfl⟩,he.2,he.2⟩
   .simp at b
  .simp at a
 .rw[i] at a ⊢
  exact Zc (s:=BS P q.fr (comp P o)) r (λv eff rd b=>Ov (Ol b)) he a
theorem Y5 {o:Oper} (a:uP n o=true) (b:n<=8000):∀t,o.dst=some t->t<8000:=by
 grind [uP]
theorem XW {c:Rec} {a b:Nat} (h1:c.lo=a) (d:c.hi=b):c=⟨c.rd,c.wr,c.call,a,b⟩:=by cases c;subst h1;subst d;rfl
theorem LC {call:jw} (i:mI P call) (M:n<=8000) {N:Fz} (g:Option (Nat × Bool)):∀(l:List (Option Nat × SB)) (os:List Oper) (e e':ES) (h:Heap) (a s:List Rec),
  eo P n all N os=some (l.map λ(d,b)=>⟨d,g,b⟩)->(∀d w,g=some (d,w)->e.T d=.val (.bool w)/\(l.all λx=>x.1 != some d)=true)->jT h e->Pn P call l a e=some (e',s) ->
  ∃f z,s=a++f/\Tr P n all os e.T h f e'.T z/\jT z e'/\Calm e e' h z/\gZ P false (l.map λ(d,b)=>⟨d,g,b⟩) f
 | [],os,e,e',h,a,s,A,B,he,j=>by
  have:=nt A;subst this
  simp only[Pn,abd,abz] at j;obtain⟨rfl,rfl⟩:=j
  exact⟨[],h,by simp,.nil,he,Calm.refl _ _,.nil⟩
 | (d,b)::l,os,e,e',h,a,s,A,B,he,j=>by
  obtain⟨o,r,rfl,h1,O⟩:=nY A
  obtain⟨Q,u,m,q⟩:=wL h1
  simp only at u m q
  have C:dW n all e.T o=some true:=by
   cases g with
   | none=>exact Gs q
   | some p =>
    obtain⟨D,w⟩:=p
    have:=(mZ (T:=e.T) q).1 w (B D w rfl).1
    grind
  simp only[Pn] at j
  rw[m] at j
  split at j
  .rename_i v K c R
   obtain⟨E,st,F,S,G,U,V,W⟩:=Zx i C he R
   have k:(K.put d v).T=e.T.put o.dst v:=by
    grind [ES.Xi,Y5]
   obtain⟨f,H,X,L,I,y,J⟩:=LC i M g l r (K.put d v) e' E _ s O (λD w eq=>by
    have:=B D w eq
    simp only[acj,abh,bne_iff_ne,ne_eq] at this
    refine⟨?_,this.2.2⟩
    rw[<-this.1,k,<-u]
    cases d with
    | none=>rfl
    | some t=>simp only[Env.put];rw[aa9];intro e;subst e;exact this.2.1 rfl) (RB F) j
   rw[k] at L
   refine⟨_,H,?_,.cons st Q L,I,(V1 G).trans y,J.cons (by rw[m];exact U)⟩
   grind [XW]
  .simp at j
theorem LN {D:Fz} (E:n<=8000) (d:Nat) (w:Bool) (h:Heap):∀(l:List (Option Nat × SB)) (os:List Oper) (e e':ES) (a k:List Rec),
  eo P n all D os=some (l.map λ(f,b)=>⟨f,some (d,w),b⟩)->(e.T d=.val (.bool !w)∨e.T d=.bc [])->(l.all λx=>x.1 != some d)=true->jT h e->CN l a e=(e',k) ->
  ∃c,k=a++c/\Tr P n all os e.T h c e'.T h/\jT h e'/\e'.w=e.w/\gZ P false (l.map λ(f,b)=>⟨f,some (d,w),b⟩) c
 | [],os,e,e',a,k,q,i,s,he,p=>by
  have:=nt q;subst this
  simp only[CN,abz] at p;obtain⟨rfl,rfl⟩:=p
  exact⟨[],by simp,.nil,he,rfl,.nil⟩
 | (f,b)::l,os,e,e',a,k,q,i,s,he,p=>by
  obtain⟨o,r,rfl,h1,F⟩:=nY q
  obtain⟨u,m,v,j⟩:=wL h1
  simp only at m v j
  have y:dW n all e.T o=some false:=by
   rcases i with i | i
   .rw[(mZ (T:=e.T) j).1 _ i];cases w<;>rfl
   .exact(mZ (T:=e.T) j).2 i
  simp only[acj,abh,bne_iff_ne,ne_eq] at s
  have g:(e.put f (.bc [])).T=e.T.put o.dst (.bc []):=by
   grind [ES.Xi,Y5]
  obtain⟨c,G,C,z,A,B⟩:=LN E d w h l r (e.put f (.bc [])) e' _ k F (by
   have:(e.put f (.bc [])).T d=e.T d:=by
    rw[g,<-m]
    cases f with
    | none=>rfl
    | some t=>grind [Env.put]
   rw[this];exact i) s.2 (RB he) p
  rw[g] at C
  refine⟨_,?_,Tr.cons (.skip y) u C,z,by rw[A,Xo],B.cons (r:=⟨[],[],false,h.length,h.length⟩) ⟨λ_=>⟨rfl,rfl,rfl,rfl⟩,λ_=>rfl⟩⟩
  rw[G,ace,Xc,he.2];rfl
theorem JI {j:Fz} (k:n<=8000) {d:Nat} {w:Bool} {h:Heap} {l:List (Option Nat × SB)} {os:List Oper} {e e':ES} {a f:List Rec}
  (m:eo P n all j os=some (l.map λ(g,b)=>⟨g,some (d,w),b⟩)) (o:e.T d=.val (.bool !w)∨e.T d=.bc []) (p:(l.all λx=>x.1 != some d)=true) (he:jT h e) (q:CN l a e=(e',f)):
  ∃c i,f=a++c/\Tr P n all os e.T h c e'.T i/\jT i e'/\Calm e e' h i/\gZ P false (l.map λ(g,b)=>⟨g,some (d,w),b⟩) c:=by
 obtain⟨c,h1,r,s,t,u⟩:=LN k d w h l os e e' a f m o p he q
 exact⟨c,h,h1,r,s,⟨abg _,λid _ hw=>⟨rfl,by rw[t] at hw;exact hw⟩⟩,u⟩
theorem ZC {call:jw} (c:mI P call) (m:n<=8000) {r:Fz} {g:SG} {os:List Oper} {e e':ES} {h:Heap} {a l:List Rec} (k:eo P n all r os=some g.flat) (j:wH g=true) (he:jT h e) (f:eG P call g a e=some (e',l)):
  ∃i o,l=a++i/\Tr P n all os e.T h i e'.T o/\jT o e'/\Calm e e' h o/\gZ P false g.flat i:=by
 unfold eG at f
 unfold SG.flat at k ⊢
 unfold wH at j
 split at f
 .rename_i p
  rw[p] at k ⊢
  exact LC c m none g.ops os e e' h a l k (λd w e=>by simp at e) he f
 .rename_i d want p
  rw[p] at k j ⊢
  unfold TV at f
  split at f
  .rename_i b q
   split at f
   .simp only[abd] at f
    have e':b = !want:=by cases b<;>cases want<;>simp_all
    grind [JI]
   .have e':b=want:=by grind
    subst e'
    exact LC c m (some (d,b)) g.ops os e _ h a l k (λs w e=>by simp at e;obtain⟨rfl,rfl⟩:=e;exact⟨q,j⟩) he f
  .rename_i q
   simp only[abd] at f
   exact JI m k (.inr q) j he f
  .simp at f
theorem S4 {call:jw} (b:mI P call) (z:n<=8000) {A:Fz}:∀(gs:List SG) (os:List Oper) (e e':ES) (h:Heap) (a i:List Rec),eo P n all A os=some (oE gs)->gs.all wH=true->jT h e->Sq P call gs a e=some (e',i) ->
  ∃c j,i=a++c/\Tr P n all os e.T h c e'.T j/\jT j e'/\Calm e e' h j/\gZ P false (oE gs) c
 | [],os,e,e',h,a,i,k,_,he,d=>by
  have:=nt k;subst this
  simp only[Sq,abd,abz] at d;obtain⟨rfl,rfl⟩:=d
  exact⟨[],h,by simp,.nil,he,Calm.refl _ _,.nil⟩
 | g::gs,os,e,e',h,a,i,k,f,he,d=>by
  simp only[acj,abh] at f
  obtain⟨F,B,rfl,h1,C⟩:=ug k
  simp only[Sq] at d
  split at d
  .rename_i D E l
   obtain⟨G,m,o,p,q,r,s⟩:=ZC b z h1 f.1 he l
   obtain⟨H,t,u,v,w,x,y⟩:=S4 b z gs B D e' m E i C f.2 q d
   exact⟨_,t,by rw[u,o,ace],p.append v,w,r.trans x,s.append y⟩
  .simp at d
theorem Rq {ls:List Nat} {i k x y:Nat} (a:i<k) (b:ls[i]?=some x) (c:ls[k]?=some y) (d:ordered (gT all []) i k=false) (h:¬ (x=0∨y=0∨(x<=1/\y<=1))):(i,k)∈Fb all ls:=by
 unfold Fb
 simp only[List.mem_flatten,abt]
 refine⟨_,⟨(x,i),by rw[ab6];exact b,rfl⟩,?_⟩
 simp only[abt,acr]
 refine⟨(y,k),⟨by rw[ab6];exact c,?_⟩,rfl⟩
 grind
theorem Wz {ls:List Nat} {d:List Rec} (h:Tv d (Fb all ls)=true) (v:ls.length=d.length) (hr:∀(i x:Nat) (r:Rec),ls[i]?=some x->d[i]?=some r->mG x r.rd r.wr r.call r.lo r.hi):yi all d:=by
 intro i k a b l s o t
 have hk:k<d.length:=(abf.1 o).1
 have j:ls[i]?=some (ls[i]'(by omega)):=aa8 (by omega)
 have m:ls[k]?=some (ls[k]'(by omega)):=aa8 (by omega)
 generalize ls[i]'(by omega)=x at j
 generalize ls[k]'(by omega)=y at m
 have p:=hr i _ a j s
 have q:=hr k _ b m o
 by_cases f:x=0∨y=0∨(x<=1/\y<=1)
 .rcases f with h1 | h1 | h1
  .obtain⟨g,e,n,u⟩:=p.1 h1
   exact⟨λid c=>by simp[e] at c,λid _=>by simp[g],λf=>by simp[n] at f,λ_=>e,λid _ j=>by omega⟩
  .obtain⟨g,e,n,u⟩:=q.1 h1
   exact⟨λid _=>by simp[g],λid c=>by simp[e] at c,λ_=>e,λf=>by simp[n] at f,λid c=>by simp[e] at c⟩
  .have g:=p.2 h1.1
   have e:=q.2 h1.2
   exact⟨λid c=>by simp[g] at c,λid c=>by simp[e] at c,λ_=>e,λ_=>g,λid c=>by simp[e] at c⟩
 .have:=abC.1 h _ (Rq l j m t f)
  grind [UU]
theorem X2 (hm:P.follows .mixedOrders=true) {call:jw} (f:mI P call) (B:n<=8000) {w:List Nat} {id:Nat} {ops:Array Oper} {draw:Bool} {y:DC} {run:AL} {e e':ES} {r:Exit} {h:Heap}
  (j:Mj P n w ops.toList draw=some y) (he:jT h e) (a:uS P call run y e=some (r,e')):
  ∃d,dB P n (.region id ops draw) e.T h r e'.T d/\jT d e'/\Calm e e' h d:=by
 unfold Mj at j
 split at j
 .simp at j
 .rename_i l C
  split at j
  .simp at j
  .have m:(group l).all wH=true:=by grind
   have o:eo P n ops.toList ⟨w,false⟩ ops.toList=some (oE (group l)):=by rw[iv];exact C
   have key:∀p,uS P call run (.region p (group l)) e=some (r,e')->(draw=true->oB ops.toList=true/\p=Fb ops.toList (l.map λs=>j0 P false s.b)) ->
     ∃d,dB P n (.region id ops draw) e.T h r e'.T d/\jT d e'/\Calm e e' h d:=by
    intro p a q
    simp only[uS,Pp] at a
    split at a
    .rename_i D c t
     split at a
     .rename_i k
      simp only[abd,abz] at a
      obtain⟨rfl,rfl⟩:=a
      obtain⟨z,d,E,A,hk,u,g⟩:=S4 f B (group l) ops.toList e D h [] c o m he t
      subst E
      rw[iv] at g
      refine⟨d,?_,hk,u⟩
      cases F:draw with
      | false=>simpa using Kt (id:=id) A
      | true =>
       obtain⟨h1,rfl⟩:=q F
       have v:yi ops.toList c:=Wz k (by simpa using g.1) (λi x r a hr=>by
        simp only[aba,abj] at a
        obtain⟨s,G,rfl⟩:=a
        exact g.2 i s r G hr)
       simpa using Bk hm (id:=id) A h1 v
     .simp at a
    .simp at a
   grind
theorem VH (hm:P.follows .mixedOrders=true) {call:jw} (q:mI P call) {run:AL} (f:zx P run):zx P (uS P call run):=by
 intro n p c H j o e e' r h k he
 cases c with
 | skip =>
  simp[kx] at j;subst j
  obtain⟨rfl,rfl⟩:=k
  exact⟨h,.skip,he,Calm.refl _ _,λ_ h=>by simp at h⟩
 | region id ops draw =>
  obtain⟨I,a,b,d⟩:=X2 (id:=id) hm q o j he k
  grind
 | seq x y =>
  simp only[kx] at j
  split at j
  .rename_i a b h1 A
   simp at j;subst j
   simp only[uS,YJ] at k
   split at k
   .rename_i s m
    obtain⟨g,l,i,c1,v⟩:=f n p x a h1 o e s .normal h m he
    obtain⟨t,E,u,c2,F⟩:=f n p y b A o s e' r g k i
    exact⟨t,l.seq E,u,c1.trans c2,λ_ h=>by simp at h⟩
   .obtain⟨g,l,i,c1,v⟩:=f n p x a h1 o e e' r h k he
    refine⟨g,l.OY (λe=>?_),i,c1,λ_ h=>by simp at h⟩
    subst e
    grind
  .simp at j
 | cond J x y =>
  simp only[kx] at j
  split at j
  .rename_i a b h1 A
   simp at j;subst j
   simp only[uS,Xg,SX.di] at k
   split at k
   .rename_i B
    obtain⟨g,l,i,c1,v⟩:=f n p x a h1 o e e' r h k he
    exact⟨g,.cond B l,i,c1,λ_ h=>by simp at h⟩
   .rename_i B
    obtain⟨g,l,i,c1,v⟩:=f n p y b A o e e' r h k he
    exact⟨g,.cond B l,i,c1,λ_ h=>by simp at h⟩
   .simp at k
  .simp at j
 | block id c =>
  simp only[kx,abj] at j
  obtain⟨a,h1,rfl⟩:=j
  simp only[uS,R5] at k
  split at k
  .rename_i G s m
   simp only[abd,abz] at k
   obtain⟨rfl,rfl⟩:=k
   obtain⟨g,l,i,c1,v⟩:=f n p c a h1 o e s G h m he
   exact⟨g,l.block,i,c1,λ_ h=>by simp at h⟩
  .simp at k
 | loop c =>
  have C:=j
  simp only[kx,abj] at j
  obtain⟨a,h1,rfl⟩:=j
  simp only[uS,Xb] at k
  split at k
  .rename_i s m
   obtain⟨g,l,i,c1,v⟩:=f n p c a h1 o e s .normal h m he
   obtain⟨t,E,u,c2,F⟩:=f n p (.loop c) (.loop a) C o s e' r g k i
   have w:=sx.step l (F c rfl)
   exact⟨t,.loop w,u,c1.trans c2,λc0 z=>by simp only[Code.loop.injEq] at z;subst z;exact w⟩
  .rename_i D
   obtain⟨g,l,i,c1,v⟩:=f n p c a h1 o e e' r h k he
   have w:=sx.out l (λe=>by subst e;exact absurd k (D e'))
   exact⟨g,.loop w,i,c1,λc0 z=>by simp only[Code.loop.injEq] at z;subst z;exact w⟩
 | exit id =>
  simp[kx] at j;subst j
  obtain⟨rfl,rfl⟩:=k
  exact⟨h,.exit,he,Calm.refl _ _,λ_ h=>by simp at h⟩
 | ret =>
  simp[kx] at j;subst j
  obtain⟨rfl,rfl⟩:=k
  exact⟨h,.ret,he,Calm.refl _ _,λ_ h=>by simp at h⟩
 | _=>simp[kx] at j
theorem Ju:∀(vs:List V) (i:Nat) (t:c9 V),i+vs.length<=8000->∀k,(pC vs i t).get .any k=if i<=k/\k<i+vs.length then vs.getD (k-i) .any else t.get .any k
 | [],i,t,h,k=>by
  grind [pC]
 | v::vs,i,t,h,k=>by
  simp only[abl] at h
  rw[pC,Ju vs (i+1) _ (by omega),c9.py _ _ _ _ _ _ (by simp only[deep];omega)]
  grind
theorem M1 (vs:List V) (h:vs.length<=8000):(pC vs 0 .nil).get .any=mS vs:=by
 funext k
 rw[Ju vs 0 .nil (by omega)]
 simp only[mS,aco,true_and,abX,Nat.sub_zero]
 split
 .rfl
 .rw[aa7,abL (by omega)];rfl
theorem Ye {e:ES} {h:Heap} {r:ResultVar} {rest:List ResultVar} {l:List SR} (he:jT h e) (b:gL P (r::rest)=some l):∃s l',l=s::l'/\gL P rest=some l'/\∀v,Vv s e=some v->vJ P e.T h r=some v:=by
 cases r with
 | tmp t =>
  simp only[gL,abj] at b
  obtain⟨l',h1,rfl⟩:=b
  exact⟨.tmp t,l',rfl,h1,λv c=>c⟩
 | cell a t =>
  simp only[gL] at b
  split at b
  .rename_i k l' h1 d
   simp at b;subst b
   refine⟨.cell a k,l',rfl,d,λv c=>?_⟩
   simp only[Vv] at c
   simp only[vJ,oM,zQ h1]
   rw[he.1] at c
   grind
  .simp at b
theorem Lh {e:ES} {h:Heap} (he:jT h e):∀(rs:List ResultVar) (l:List SR) (vs:List V),gL P rs=some l->zX l e=some vs->nV P e.T h rs=some vs
 | [],l,vs,a,hw=>by simp[gL] at a;subst a;simp[zX] at hw;subst hw;rfl
 | r::rest,l,vs,a,hw=>by
  obtain⟨s,l',rfl,h1,d⟩:=Ye (e:=e) (h:=h) he a
  simp only[zX] at hw
  split at hw
  .rename_i v b f c
   simp at hw;subst hw
   simp[nV,d v f,Lh he rest l' b h1 c]
  .simp at hw
def sG (P:Program) (tab:List (FuncId × DF)):Prop:=∀p∈tab,∃fz,LF P p.1 fz=some p.2
def vY (P:Program) (ext:B9):Prop:=∀g vs H t,ext g vs H=some t->eh P g=true/\∀h:Heap,h.view=H->b6 P g vs h t h
theorem LP {tab:List (FuncId × DF)} {ext:B9} (M:sG P tab) (x:vY P ext) {run:AL} (m:zx P run):mI P (J9 P tab ext run):=by
 intro g vs e v e' h b he
 unfold J9 at b
 split at b
 .rename_i t o
  obtain⟨rfl,rfl⟩:=b
  obtain⟨h1,z⟩:=x _ _ _ _ o
  exact⟨h1,h,z h he.1.symm,he,λ_ _ _=>rfl,λ_ hw=>by simp at hw⟩
 .split at b
  .rename_i y F J
   have p:=List.mem_of_find?_eq_some J
   have A:y=g:=by
    have:=List.find?_some J
    exact ac7 this
   subst A
   obtain⟨N,i⟩:=M _ p
   unfold LF at i
   split at i
   .rename_i fn B
    split at i
    .rename_i c O
     split at i
     .rename_i K rs h1 z U
      simp at i;subst i
      unfold YA at b
      split at b
      .rename_i hlen C
       have hlen:=Nat.le_of_ble_eq_true hlen
       have C:=Nat.le_of_ble_eq_true C
       unfold Zb at b
       split at b
       .rename_i v1 d q
        simp only[abd,abz] at b
        unfold YM at q
        have go:∀(r:Exit) (s:ES),(r=.ret∨r=.normal)->run K ⟨pC vs 0 .nil,e.H,e.n,[]⟩=some (r,s)->(zX rs s).map (λvs=>(zt vs,s))=some (v1,d) ->
          ∃f,b6 P y vs h v1 f/\jT f d/\(∀id,id<h.length->¬ id∈d.w->f.view id=h.view id):=by
         intro r s hr D k
         simp only[abj,abz] at k
         obtain⟨E,G,rfl,rfl⟩:=k
         obtain⟨f,x,u,I,_⟩:=m fn.ntmps N c K h1 C _ s r h D he
         have Q:(ES.T ⟨pC vs 0 .nil,e.H,e.n,[]⟩)=mS vs:=M1 vs (by omega)
         rw[Q] at x
         refine⟨f,b6.OO B O hlen x (by rcases hr with rfl | rfl<;>simp) ?_,u,λid j hw=>(I.2 id j hw).1⟩
         unfold Qr
         rw[Lh u _ _ _ z G]
         cases E with
         | nil=>rfl
         | cons a l=>cases l<;>rfl
        have done:(∃f,b6 P y vs h v1 f/\jT f d/\(∀id,id<h.length->¬ id∈d.w->f.view id=h.view id)) ->
          ∃f,b6 P y vs h v1 f/\jT f ⟨d.L,d.H,d.n,d.w.filter λid=>Nat.blt id e.n⟩/\(∀id,id<h.length->¬ id∈d.w.filter (λid=>Nat.blt id e.n)->f.view id=h.view id)/\∀id,id∈d.w.filter (λid=>Nat.blt id e.n)->id<h.length:=by
         rintro⟨f,R,k2,S⟩
         refine⟨f,R,k2,λid j hw=>S id j (λhm=>hw ?_),λid hw=>?_⟩
         .rw[acr]
          exact⟨hm,by rw[he.2];exact Nat.ble_eq_true_of_le j⟩
         .rw[acr] at hw
          have:=Nat.le_of_ble_eq_true hw.2
          rw[he.2] at this;exact this
        grind
       .grind
      .grind
     .simp at i
    .simp at i
   .simp at i
  .grind
theorem NI (hm:P.follows .mixedOrders=true) {tab:List (FuncId × DF)} {ext:B9} (a:sG P tab) (b:vY P ext):∀k,zx P (MA P tab ext k)
 | 0=>λn f c g i j e e' r h hr he=>by simp[MA] at hr
 | k+1=>by
  have d:=NI hm a b k
  have:=VH hm (LP a b d) d
  exact this
end
end
end Gv

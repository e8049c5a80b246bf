/-
  Part 6 of the proof: what the machine does and what the functions answer.
  Conditions: those that each lemma names.
-/
import Derived.Test.YtiophifnkakjgaaGreatSGzC3E
set_option linter.unusedSimpArgs false
set_option linter.unusedVariables false
set_option maxRecDepth 100000
set_option maxHeartbeats 20000000
namespace Gv
open Go Go.Proofs
structure Term where
 name:ByteArray
 level:Int
 assoc:Int
structure aW where
 left:Int
 right:List Int
 prec:Int
structure ag where
 an:List Term
 ax:List ByteArray
 rules:List aW
 start:Int
instance:Inhabited Term:=⟨⟨.empty,0,0⟩⟩
instance:Inhabited aW:=⟨⟨0,[],0⟩⟩
def dp (t:Term):List V:=[gs t.name,gi t.level,gi t.assoc]
def aU (r:aW):List V:=[gi r.left,encI r.right,gi r.prec]
def encS (l:List ByteArray):V:=.aL (l.map λs=>[gs s])
def ak (g:ag):List V:=[.aL (g.an.map dp),encS g.ax,.aL (g.rules.map aU),gi g.start]
theorem eK {α:Type} (l:List α) (f:α->List V) (h:∀ x∈l,∀ v∈f x,Tree v):Tree (.aL (l.map f)):=by
 refine .aL _ λi j hi a=>?_
 simp only[WG] at hi
 have e:(l.map f).getD i []=f l[i]:=by simp[Wo,hi]
 rw[e] at a ⊢
 have b:(f l[i]).getD j .any=(f l[i])[j]:=by simp[Wo,a]
 rw[b]
 exact h _ (WA _) _ (WA _)
theorem cX (cs:List V) (h:∀ v∈cs,Tree v):Tree (.agg cs):=by
 refine .agg _ λi hi=>?_
 have a:cs.getD i .any=cs[i]:=by simp[Wo,hi]
 rw[a];exact h _ (WA _)
theorem xQ (l:List ByteArray):Tree (encS l):=eK _ _ λx _ v a=>by simp at a;subst a;exact .val _
theorem sZ (t:Term):∀ v∈dp t,Tree v:=by intro v a;simp[dp] at a;rcases a with rfl | rfl | rfl <;> exact .val _
theorem gI (r:aW):∀ v∈aU r,Tree v:=by
 intro v a;simp[aU] at a;rcases a with rfl | rfl | rfl
 .exact .val _
 .exact aX _
 .exact .val _
theorem cQ (g:ag):∀ v∈ak g,Tree v:=by
 intro v a;simp[ak] at a;rcases a with rfl | rfl | rfl | rfl
 .exact eK _ _ λx _=>sZ x
 .exact xQ _
 .exact eK _ _ λx _=>gI x
 .exact .val _
def ba (x:Int):Prop:=-9223372036854775808<=x/\x<=9223372036854775807
structure ag.Ok (g:ag):Prop where
 an:aC g.an
 ax:aC g.ax
 rules:aC g.rules
 start:ba g.start
 term:∀ t∈g.an,ba t.level/\ba t.assoc
 av:∀ r∈g.rules,ba r.left/\ba r.prec/\aC r.right/\∀ x∈r.right,ba x
def dZ (g:ag) (s:Int):Bool:=if 0<=s then decide (s < g.an.length) else decide (-1 - s < g.ax.length)
def qQ:SF:=⟨ai [af [cJ 2 0,bc 4 false],ai [af [aa 5 1,aF 6 .geq 5 0],bf 6 (ai [af [aa 7 1,ay 8 0 2,au 9 8,aQ 10 9,aZ 11 .lss 7 10,aa 4 11],.ret])],af [aa 12 1,((some 13),.op (.arith .sub (.val (.val (.int .i64 (-1)))) (.tmp 12))),ay 14 1 2,au 15 14,aQ 16 15,aZ 17 .lss 13 16,aa 4 17],.ret],
 [.tmp 4],18⟩
theorem vT:aG Tryz.prog 74 [2]=some qQ:=by kernel_rfl
theorem Ui (g:ag) (s:Int) (a:ba s) (H:View):ao Tryz.prog 74 [.agg (ak g),gi s] H λr H'=>r=gb (dZ g s)/\H'=H:=by
 refine ao.of mixed vT ?_
 obtain⟨h1,b⟩:=a
 simp(disch:=omega)only[↓wr,seval,wq,qQ,ak,encS]
 apply aj.dec<;>intro h
 .simp(disch:=omega)only[↓wr,seval,wq]
  simp[dZ,show (0:Int)<=s from h]
 .simp(disch:=omega)only[↓wr,seval,wq]
  simp[dZ,show ¬ (0:Int)<=s from h]
theorem T6 (g:ag) (s:Int) (b:ba s):az Tryz.prog 74 [.agg (ak g),gi s] (gb (dZ g s)) :=
 az.of (by
  intro v a;simp at a
  rcases a with rfl | rfl
  .exact cX _ (cQ g)
  .exact .val _) ((Ui g s b _).mono λr H' h c _=>by rw[h.1];exact .tree _ (.val _))
def nV (g:ag):Bool:=decide (40 < g.an.length) || decide (40 < g.ax.length) || decide (60 < g.rules.length) || g.rules.any λr=>decide (20 < r.right.length)
def ng:SC :=
 ai [ai [af [aa 20 3,ay 21 2 1,au 22 21,aQ 23 22,aZ 24 .lss 20 23],cp 24 (.exit 0)],.block 1 (ai [af [ay 27 2 1,au 28 27,aa 29 3,aY 30 3 28 29,ay 31 1 30,au 32 31,aQ 33 32,aF 34 .gtr 33 20],bf 34 (ai [af [bc 2 true],.ret])]),af [aa 25 3,aF 26 .add 25 1,aa 3 26]]
def o9:SF:=⟨ai [af [cJ 1 0,bc 2 false],ai [.region false [⟨none,[ay 4 0 1,au 5 4,aQ 6 5,aF 7 .gtr 6 40,aa 8 7]⟩,⟨(some (8,false)),[ay 9 1 1,au 10 9,aQ 11 10,aF 12 .gtr 11 40]⟩,⟨none,[b6 13 8 12,aa 14 13]⟩,⟨(some (14,false)),[ay 15 2 1,au 16 15,aQ 17 16,aF 18 .gtr 17 60]⟩,⟨none,[b6 19 14 18]⟩],bf 19 (ai [af [bc 2 true],.ret])],ai [af [bb 3 0],cz 0 ng],af [bc 2 false],.ret],
 [.tmp 2],35⟩
theorem tL:aG Tryz.prog 14 [1]=some o9:=by kernel_rfl
theorem QC (g:ag) (H:View):ao Tryz.prog 14 [.agg (ak g)] H λr H'=>r=gb (nV g)/\H'=H:=by
 refine ao.of mixed tL ?_
 simp(disch:=omega)only[↓wr,seval,wq,o9,ak,encS]
 apply aj.dec<;>intro h1
 .simp(disch:=omega)only[↓wr,seval,wq]
  simp[nV,show 40 < g.an.length by omega]
 .simp(disch:=omega)only[↓wr,seval,wq]
  apply aj.dec<;>intro d
  .simp(disch:=omega)only[↓wr,seval,wq]
   simp[nV,show 40 < g.ax.length by omega]
  .simp(disch:=omega)only[↓wr,seval,wq]
   apply aj.dec<;>intro f
   .simp(disch:=omega)only[↓wr,seval,wq]
    simp[nV,show 60 < g.rules.length by omega]
   .simp(disch:=omega)only[↓wr,seval,wq]
    refine bk.intro (λk T H'=>∃ i:Nat,i+k=g.rules.length/\(∀ r∈g.rules.take i,¬ 20 < r.right.length)/\T 1=.aN (ak g) 0/\T 3=gi i/\H'=H) g.rules.length ?_ ?_
    .exact⟨0,by omega,by simp,rfl,rfl,rfl⟩
    .rintro k T H' ⟨i,hk,hi,a,b,rfl⟩
     simp(disch:=omega)only[↓wr,seval,wq,ng,a,b,ak]
     apply aj.dec<;>intro h
     .have c:g.rules[i]?=some (g.rules[i]'(by omega)):=Wp (by omega)
      simp(disch:=omega)only[↓wr,seval,wq,a,b,ak,aU,encI,Ww,c,WL]
      apply aj.dec<;>intro j
      .simp(disch:=omega)only[↓wr,seval,wq]
       have:g.rules.any (λr=>decide (20 < r.right.length))=true:=by
        simp only[XZ,WH]
        exact⟨g.rules[i]'(by omega),WA _,by omega⟩
       simp[nV,this]
      .simp(disch:=omega)only[↓wr,seval,wq,a,b]
       refine⟨k - 1,by omega,i+1,by omega,?_,rfl,rfl⟩
       intro r hr
       rw[WY,c] at hr
       simp only[Option.toList_some,WN,XB] at hr
       rcases hr with hr | rfl
       .exact hi r hr
       .omega
     .simp(disch:=omega)only[↓wr,seval,wq,a,b]
      have e:i=g.rules.length:=by omega
      rw[WT (by omega)] at hi
      have:g.rules.any (λr=>decide (20 < r.right.length))=false:=by
       simp only[List.any_eq_false,WH];exact hi
      simp only[nV,this]
      simp;omega
def hX (l:List Int) (is:List Bool) (an:Bool):Bool:=l.all λs=>if 0<=s then an else is.getD (-1 - s).toNat false
abbrev gy (x:Int):V:=.val (.int .u8 x)
def uv (c:Int):Bool:=(decide (97<=c) && decide (c<=122)) || (decide (65<=c) && decide (c<=90)) || c == 95
def ou (c:Int):Bool:=uv c || (decide (48<=c) && decide (c<=57)) || c == 46
def oR:SF:=⟨ai [af [bc 2 false],.region false [⟨none,[aa 3 0,((some 4),.op (.arith .geq (.tmp 3) (.val (.val (.int .u8 97))))),aa 5 4]⟩,⟨(some (5,true)),[aa 6 0,((some 7),.op (.arith .leq (.tmp 6) (.val (.val (.int .u8 122)))))]⟩,⟨none,[fe 8 5 7,aa 9 8]⟩,⟨(some (9,false)),[aa 10 0,((some 11),.op (.arith .geq (.tmp 10) (.val (.val (.int .u8 65))))),aa 12 11]⟩,⟨(some (12,true)),[aa 13 0,((some 14),.op (.arith .leq (.tmp 13) (.val (.val (.int .u8 90)))))]⟩,⟨(some (9,false)),[fe 15 12 14]⟩,⟨none,[b6 16 9 15,aa 17 16]⟩,⟨(some (17,false)),[aa 18 0,((some 19),.op (.arith .eql (.tmp 18) (.val (.val (.int .u8 95)))))]⟩,⟨none,[b6 20 17 19,aa 2 20]⟩],.ret],
 [.tmp 2],21⟩
theorem tM:aG Tryz.prog 233 []=some oR:=by kernel_rfl
def oS:SF:=⟨ai [af [bc 2 false],.region false [⟨none,[aa 3 0,aT 4 233 [3],aa 5 4]⟩,⟨(some (5,false)),[aa 6 0,((some 7),.op (.arith .geq (.tmp 6) (.val (.val (.int .u8 48))))),aa 8 7]⟩,⟨(some (8,true)),[aa 9 0,((some 10),.op (.arith .leq (.tmp 9) (.val (.val (.int .u8 57)))))]⟩,⟨(some (5,false)),[fe 11 8 10]⟩,⟨none,[b6 12 5 11,aa 13 12]⟩,⟨(some (13,false)),[aa 14 0,((some 15),.op (.arith .eql (.tmp 14) (.val (.val (.int .u8 46)))))]⟩,⟨none,[b6 16 13 15,aa 2 16]⟩],.ret],
 [.tmp 2],17⟩
theorem ub:aG Tryz.prog 234 []=some oS:=by kernel_rfl
theorem Q1 (c:Int) (H:View):ao Tryz.prog 233 [gy c] H λr H'=>r=gb (uv c)/\H'=H:=by
 refine ao.of mixed tM ?_
 repeat' (first | ((first|apply aj.dec|apply aj.eq|apply aj.ne|apply aj.split)<;>intro)|(simp(disch:=omega)only[↓wr,seval,wq,oR]))
 all_goals (congr 2;simp only[uv];grind)
theorem G4 (c:Int):az Tryz.prog 233 [gy c] (gb (uv c)) :=
 az.of (by intro v a;simp at a;subst a;exact .val _) ((Q1 c _).mono λr H' h b _=>by rw[h.1];exact .tree _ (.val _))
theorem Q5 (c:Int) (H:View):ao Tryz.prog 234 [gy c] H λr H'=>r=gb (ou c)/\H'=H:=by
 refine ao.of mixed ub ?_
 repeat' (first | ((first|apply aj.dec|apply aj.eq|apply aj.ne|apply aj.split)<;>intro)|(simp(disch:=omega)only[↓wr,seval,wq,oS]))
 refine aq.pure (G4 c) ?_
 repeat' (first | ((first|apply aj.dec|apply aj.eq|apply aj.ne|apply aj.split)<;>intro)|(simp(disch:=omega)only[↓wr,seval,wq]))
 all_goals (congr 2;simp only[ou];grind)
theorem QL (c:Int):az Tryz.prog 234 [gy c] (gb (ou c)) :=
 az.of (by intro v a;simp at a;subst a;exact .val _) ((Q5 c _).mono λr H' h b _=>by rw[h.1];exact .tree _ (.val _))
def gZ (l:List Int):Bool:=decide (0 < l.length) && decide (l.length<=20) && (match l with | c :: _=>uv c | []=>false) && l.all ou
def ox:SC :=
 ai [ai [af [aa 18 3,aa 19 0,((some 20),.op (.pr (.tmp 19))),aZ 21 .lss 18 20],cp 21 (.exit 0)],.block 1 (ai [af [aa 24 0,aa 25 3,((some 26),.op (.iF (.tmp 24) (.tmp 25))),aT 27 234 [26],cW 28 27],bf 28 (ai [af [bc 2 false],.ret])]),af [aa 22 3,aF 23 .add 22 1,aa 3 23]]
def qi:SF:=⟨ai [af [bc 2 false],ai [.region false [⟨none,[aa 4 0,((some 5),.op (.pr (.tmp 4))),aF 6 .eql 5 0,aa 7 6]⟩,⟨(some (7,false)),[aa 8 0,((some 9),.op (.pr (.tmp 8))),aF 10 .gtr 9 20]⟩,⟨none,[b6 11 7 10,aa 12 11]⟩,⟨(some (12,false)),[aa 13 0,((some 14),.op (.iF (.tmp 13) (.val (.val (.int .i64 0))))),aT 15 233 [14],cW 16 15]⟩,⟨none,[b6 17 12 16]⟩],bf 17 (ai [af [bc 2 false],.ret])],ai [af [bb 3 0],cz 0 ox],af [bc 2 true],.ret],
 [.tmp 2],29⟩
theorem uE:aG Tryz.prog 172 []=some qi:=by kernel_rfl
theorem NB (s:ByteArray) (H:View):ao Tryz.prog 172 [gs s] H λr H'=>r=gb (gZ (fP s))/\H'=H:=by
 refine ao.of mixed uE ?_
 repeat' (first | ((first|apply aj.dec|apply aj.eq|apply aj.ne|apply aj.split)<;>intro)|(simp(disch:=omega)only[↓wr,seval,wq,qi,eU]))
 .rename_i h
  congr 2;simp[gZ,show (fP s).length=0 by omega]
 .rename_i h
  congr 2;simp[gZ,show ¬ (fP s).length<=20 by omega]
 .rename_i h1 g
  cases a:fP s with
  | nil=>simp[a] at h1
  | cons c l =>
   repeat' (first | ((first|apply aj.dec|apply aj.eq|apply aj.ne|apply aj.split)<;>intro)|(simp(disch:=omega)only[↓wr,seval,wq,a,WX,eU]))
   refine aq.pure (G4 c) ?_
   repeat' (first | ((first|apply aj.dec|apply aj.eq|apply aj.ne|apply aj.split)<;>intro)|(simp(disch:=omega)only[↓wr,seval,wq,a,WX,eU]))
   .rename_i j
    refine bk.intro (λk T H'=>∃ i:Nat,i+k=(c :: l).length/\((c :: l).take i).all ou=true/\T 0=gs s/\T 3=gi i/\H'=H) (c :: l).length ?_ ?_
    .exact⟨0,by omega,by simp,rfl,rfl,rfl⟩
    .rintro k T H' ⟨i,hk,hi,b,e,rfl⟩
     rw[a] at h1 g
     simp(disch:=omega)only[↓wr,seval,wq,ox,b,e,eU,a]
     apply aj.dec<;>intro m
     .simp only[WD] at m hk g
      have f:(c :: l)[i]?=some ((c :: l)[i]'(by simp;omega)):=Wp (by simp;omega)
      have hm:(c :: l)[i]'(by simp;omega)∈c :: l:=WA _
      generalize (c :: l)[i]'(by simp;omega)=d at f hm
      simp(disch:=omega)only[↓wr,seval,wq,b,e,eU,a,f]
      refine aq.pure (QL d) ?_
      repeat' (first | ((first|apply aj.dec|apply aj.eq|apply aj.ne|apply aj.split)<;>intro)|(simp(disch:=omega)only[↓wr,seval,wq,b,e,eU,a,f]))
      .rename_i n
       refine⟨k - 1,by omega,i+1,by omega,?_,rfl⟩
       rw[WY,f]
       simp only[Option.toList_some,List.all_append,hi,XK,n,List.all_nil,Bool.and_self]
      .rename_i n
       congr 2
       have:(c :: l).all ou=false:=by
        rw[List.all_eq_false];exact⟨d,hm,by simp[n]⟩
       simp only[gZ,this,X8]
     .simp(disch:=omega)only[↓wr,seval,wq,b,e]
      simp only[WD] at m hk g
      rw[WT (by simp;omega)] at hi
      congr 2
      simp only[gZ,hi,WD]
      simp[j];omega
   .rename_i j
    congr 2;simp[gZ,j]
def mO:List Int->Bool
 | [a,b,c]=>a == 39 && c == 39 && decide (32<=b) && decide (b<=126) && b != 39 && b != 92
 | [a,b,c,d]=>a == 39 && d == 39 && b == 92 && (c == 110 || c == 116 || c == 92 || c == 39)
 | _=>false
theorem QV {l:List Int} (a:l.length≠3) (b:l.length≠4):mO l=false:=by
 match l,a,b with
 | [],_,_=>rfl
 | [_],_,_=>rfl
 | [_,_],_,_=>rfl
 | [_,_,_],a,_=>exact absurd rfl a
 | [_,_,_,_],_,b=>exact absurd rfl b
 | _ :: _ :: _ :: _ :: _ :: _,_,_=>rfl
theorem VW {α:Type} {l:List α} (h:l.length=3):∃ a b c,l=[a,b,c]:=by
 match l,h with
 | [a,b,c],_=>exact⟨a,b,c,rfl⟩
theorem VT {α:Type} {l:List α} (h:l.length=4):∃ a b c d,l=[a,b,c,d]:=by
 match l,h with
 | [a,b,c,d],_=>exact⟨a,b,c,d,rfl⟩
def mW:SF:=⟨ai [af [bc 2 false],ai [af [aa 3 0,((some 4),.op (.pr (.tmp 3))),aF 5 .eql 4 3],bf 5 (ai [.region false [⟨none,[aa 6 0,((some 7),.op (.iF (.tmp 6) (.val (.val (.int .i64 0))))),((some 8),.op (.arith .eql (.tmp 7) (.val (.val (.int .u8 39))))),aa 9 8]⟩,⟨(some (9,true)),[aa 10 0,((some 11),.op (.iF (.tmp 10) (.val (.val (.int .i64 2))))),((some 12),.op (.arith .eql (.tmp 11) (.val (.val (.int .u8 39)))))]⟩,⟨none,[fe 13 9 12,aa 14 13]⟩,⟨(some (14,true)),[aa 15 0,((some 16),.op (.iF (.tmp 15) (.val (.val (.int .i64 1))))),((some 17),.op (.arith .geq (.tmp 16) (.val (.val (.int .u8 32)))))]⟩,⟨none,[fe 18 14 17,aa 19 18]⟩,⟨(some (19,true)),[aa 20 0,((some 21),.op (.iF (.tmp 20) (.val (.val (.int .i64 1))))),((some 22),.op (.arith .leq (.tmp 21) (.val (.val (.int .u8 126)))))]⟩,⟨none,[fe 23 19 22,aa 24 23]⟩,⟨(some (24,true)),[aa 25 0,((some 26),.op (.iF (.tmp 25) (.val (.val (.int .i64 1))))),((some 27),.op (.arith .neq (.tmp 26) (.val (.val (.int .u8 39)))))]⟩,⟨none,[fe 28 24 27,aa 29 28]⟩,⟨(some (29,true)),[aa 30 0,((some 31),.op (.iF (.tmp 30) (.val (.val (.int .i64 1))))),((some 32),.op (.arith .neq (.tmp 31) (.val (.val (.int .u8 92)))))]⟩,⟨none,[fe 33 29 32,aa 2 33]⟩],.ret])],.region false [⟨none,[aa 34 0,((some 35),.op (.pr (.tmp 34))),aF 36 .eql 35 4,aa 37 36]⟩,⟨(some (37,true)),[aa 38 0,((some 39),.op (.iF (.tmp 38) (.val (.val (.int .i64 0))))),((some 40),.op (.arith .eql (.tmp 39) (.val (.val (.int .u8 39)))))]⟩,⟨none,[fe 41 37 40,aa 42 41]⟩,⟨(some (42,true)),[aa 43 0,((some 44),.op (.iF (.tmp 43) (.val (.val (.int .i64 3))))),((some 45),.op (.arith .eql (.tmp 44) (.val (.val (.int .u8 39)))))]⟩,⟨none,[fe 46 42 45,aa 47 46]⟩,⟨(some (47,true)),[aa 48 0,((some 49),.op (.iF (.tmp 48) (.val (.val (.int .i64 1))))),((some 50),.op (.arith .eql (.tmp 49) (.val (.val (.int .u8 92)))))]⟩,⟨none,[fe 51 47 50,aa 52 51]⟩,⟨(some (52,true)),[aa 53 0,((some 54),.op (.iF (.tmp 53) (.val (.val (.int .i64 2))))),((some 55),.op (.arith .eql (.tmp 54) (.val (.val (.int .u8 110))))),aa 56 55]⟩,⟨(some (56,false)),[aa 57 0,((some 58),.op (.iF (.tmp 57) (.val (.val (.int .i64 2))))),((some 59),.op (.arith .eql (.tmp 58) (.val (.val (.int .u8 116)))))]⟩,⟨(some (52,true)),[b6 60 56 59,aa 61 60]⟩,⟨(some (61,false)),[aa 62 0,((some 63),.op (.iF (.tmp 62) (.val (.val (.int .i64 2))))),((some 64),.op (.arith .eql (.tmp 63) (.val (.val (.int .u8 92)))))]⟩,⟨(some (52,true)),[b6 65 61 64,aa 66 65]⟩,⟨(some (66,false)),[aa 67 0,((some 68),.op (.iF (.tmp 67) (.val (.val (.int .i64 2))))),((some 69),.op (.arith .eql (.tmp 68) (.val (.val (.int .u8 39)))))]⟩,⟨(some (52,true)),[b6 70 66 69]⟩,⟨none,[fe 71 52 70,aa 2 71]⟩],.ret],
 [.tmp 2],72⟩
theorem sf:aG Tryz.prog 232 []=some mW:=by kernel_rfl
def pa:SF:=⟨ai [af [bc 2 false],.region false [⟨none,[aa 3 0,aT 4 172 [3],aa 5 4]⟩,⟨(some (5,false)),[aa 6 0,aT 7 232 [6]]⟩,⟨none,[b6 8 5 7,aa 2 8]⟩],.ret],
 [.tmp 2],9⟩
theorem tW:aG Tryz.prog 169 []=some pa:=by kernel_rfl
theorem RJ (s:ByteArray) (H:View):ao Tryz.prog 232 [gs s] H λr H'=>r=gb (mO (fP s))/\H'=H:=by
 refine ao.of mixed sf ?_
 simp(disch:=omega)only[↓wr,seval,wq,mW,eU]
 apply aj.eq<;>intro h
 .obtain⟨a,b,c,e⟩:=VW (l:=fP s) (by omega)
  repeat' (first | ((first|apply aj.dec|apply aj.eq|apply aj.ne|apply aj.split)<;>intro)|(simp(disch:=omega)only[↓wr,seval,wq,e,WX,Xl]))
  all_goals (congr 2;simp only[mO];grind)
 .simp(disch:=omega)only[↓wr,seval,wq,eU]
  apply aj.eq<;>intro f
  .obtain⟨a,b,c,d,e⟩:=VT (l:=fP s) (by omega)
   repeat' (first | ((first|apply aj.dec|apply aj.eq|apply aj.ne|apply aj.split)<;>intro)|(simp(disch:=omega)only[↓wr,seval,wq,e,WX,Xl]))
   all_goals (congr 2;simp only[mO];grind)
  .repeat' (first | ((first|apply aj.dec|apply aj.eq|apply aj.ne|apply aj.split)<;>intro)|(simp(disch:=omega)only[↓wr,seval,wq,eU]))
   rw[QV (by omega) (by omega)]
theorem pb (s:ByteArray):∀ v∈[gs s],Tree v:=by intro v a;simp at a;subst a;exact .val _
theorem Eu (s:ByteArray):az Tryz.prog 172 [gs s] (gb (gZ (fP s))) :=
 az.of (pb s) ((NB s _).mono λr H' h a _=>by rw[h.1];exact .tree _ (.val _))
theorem QB (s:ByteArray):az Tryz.prog 232 [gs s] (gb (mO (fP s))) :=
 az.of (pb s) ((RJ s _).mono λr H' h a _=>by rw[h.1];exact .tree _ (.val _))
def qq (l:List Int):Bool:=gZ l || mO l
theorem MH (s:ByteArray) (H:View):ao Tryz.prog 169 [gs s] H λr H'=>r=gb (qq (fP s))/\H'=H:=by
 refine ao.of mixed tW ?_
 simp(disch:=omega)only[↓wr,seval,wq,pa]
 refine aq.pure (Eu s) ?_
 repeat' (first | ((first|apply aj.dec|apply aj.eq|apply aj.ne|apply aj.split)<;>intro)|(simp(disch:=omega)only[↓wr,seval,wq]))
 .rename_i h;simp[qq,h]
 .rename_i h
  refine aq.pure (QB s) ?_
  repeat' (first | ((first|apply aj.dec|apply aj.eq|apply aj.ne|apply aj.split)<;>intro)|(simp(disch:=omega)only[↓wr,seval,wq]))
  simp[qq,h]
theorem Md (s:ByteArray):az Tryz.prog 169 [gs s] (gb (qq (fP s))) :=
 az.of (pb s) ((MH s _).mono λr H' h a _=>by rw[h.1];exact .tree _ (.val _))
def nW (s:ByteArray):List ByteArray->Int->Int
 | [],_=>-1
 | x :: l,i=>if iX x s=true then i else nW s l (i+1)
def qY (g:ag) (s:ByteArray):Int:=nW s (g.an.map Term.name) 0
def Dy (g:ag) (s:ByteArray):Int:=nW s g.ax 0
theorem fS {α:Type} {l:List α} {i:Nat} (h:i < l.length):l.drop i=l[i] :: l.drop (i+1):=XH h
theorem GP (g:ag) (s:ByteArray):∀ v∈[V.agg (ak g),gs s],Tree v:=by
 intro v a;simp at a
 rcases a with rfl | rfl
 .exact cX _ (cQ g)
 .exact .val _
theorem eR (g:ag):∀ v∈[V.agg (ak g)],Tree v:=by intro v a;simp at a;subst a;exact cX _ (cQ g)
theorem Hc (g:ag) (x:Int):∀ v∈[V.agg (ak g),gi x],Tree v:=by
 intro v a;simp at a
 rcases a with rfl | rfl
 .exact cX _ (cQ g)
 .exact .val _
theorem az.val {P:Program} {f:FuncId} {vs:List V} {x:Value} (a:∀ v∈vs,Tree v) (h:∀ H,ao P f vs H λr _=>r=.val x):az P f vs (.val x) :=
 az.of a ((h _).mono λr H' e b _=>by rw[e];exact .tree _ (.val _))
def nL:SC :=
 ai [ai [af [aa 6 5,ay 7 0 2,au 8 7,aQ 9 8,aZ 10 .lss 6 9],cp 10 (.exit 0)],.block 1 (ai [af [ay 13 0 2,au 14 13,aa 15 5,aY 16 3 14 15,ay 17 0 16,au 18 17,aa 19 1,((some 20),.op (.yo .eql (.tmp 18) (.tmp 19)))],bf 20 (ai [af [aa 21 5,aa 4 21],.ret])]),af [aa 11 5,aF 12 .add 11 1,aa 5 12]]
def qx:SF:=⟨ai [af [cJ 2 0,bb 4 0],ai [af [bb 5 0],cz 0 nL],af [bb 4 (-1)],.ret],
 [.tmp 4],22⟩
theorem uR:aG Tryz.prog 170 [2]=some qx:=by kernel_rfl
def oQ:SC :=
 ai [ai [af [aa 6 5,ay 7 1 2,au 8 7,aQ 9 8,aZ 10 .lss 6 9],cp 10 (.exit 0)],.block 1 (ai [af [ay 13 1 2,au 14 13,aa 15 5,aY 16 1 14 15,au 17 16,aa 18 1,((some 19),.op (.yo .eql (.tmp 17) (.tmp 18)))],bf 19 (ai [af [aa 20 5,aa 4 20],.ret])]),af [aa 11 5,aF 12 .add 11 1,aa 5 12]]
def qT:SF:=⟨ai [af [cJ 2 0,bb 4 0],ai [af [bb 5 0],cz 0 oQ],af [bb 4 (-1)],.ret],
 [.tmp 4],21⟩
theorem vL:aG Tryz.prog 150 [2]=some qT:=by kernel_rfl
def nz:SC :=
 ai [ai [af [aa 8 6,ay 9 0 2,au 10 9,aQ 11 10,aZ 12 .lss 8 11],cp 12 (.exit 0)],.block 1 (ai [.region false [⟨none,[ay 15 0 2,au 16 15,aa 17 6,aY 18 3 16 17,bj 19 3 18,((some 7),.op (.alloc [(.val (.string ⟨#[]⟩)),(.val (.int .i64 0)),(.val (.int .i64 0))])),df 3 7 19]⟩],ai [af [ay 20 1 7,au 21 20,aa 22 1,aZ 23 .neq 21 22],bf 23 (.exit 1)],ai [.region false [⟨none,[aa 24 5,aF 25 .neq 24 0,aa 26 25]⟩,⟨(some (26,true)),[aa 27 5,ay 28 2 7,au 29 28,aZ 30 .neq 27 29]⟩,⟨none,[fe 31 26 30]⟩],bf 31 (ai [af [bc 4 false],.ret])],af [ay 32 2 7,au 33 32,aa 5 33]]),af [aa 13 6,aF 14 .add 13 1,aa 6 14]]
def oY:SF:=⟨ai [af [cJ 2 0,bc 4 false],af [bb 5 0],ai [af [bb 6 0],cz 0 nz],af [aa 34 5,aF 35 .neq 34 0,aa 4 35],.ret],
 [.tmp 4],36⟩
theorem tK:aG Tryz.prog 171 [2]=some oY:=by kernel_rfl
theorem OQ (g:ag) (e:g.Ok) (s:ByteArray) (H:View):ao Tryz.prog 170 [.agg (ak g),gs s] H λr _=>r=gi (qY g s):=by
 refine ao.of mixed uR ?_
 have h:g.an.length < 4611686018427387904:=e.an
 simp(disch:=omega)only[↓wr,seval,wq,qx,ak,encS]
 refine bk.intro (λk T _=>∃ i:Nat,i+k=g.an.length/\nW s ((g.an.drop i).map Term.name) i=qY g s/\T 1=gs s/\T 2=.aN (ak g) 0/\T 5=gi i) g.an.length ?_ ?_
 .exact⟨0,by omega,rfl,rfl,rfl,rfl⟩
 .rintro k T H' ⟨i,hk,hi,h1,a,b⟩
  simp(disch:=omega)only[↓wr,seval,wq,nL,h1,a,b,ak]
  apply aj.dec<;>intro f
  .have c:g.an[i]?=some (g.an[i]'(by omega)):=Wp (by omega)
   rw[fS (show i < g.an.length by omega)] at hi
   generalize g.an[i]'(by omega)=t at c hi
   simp only[WZ,nW] at hi
   simp(disch:=omega)only[↓wr,seval,wq,h1,a,b,ak,dp,Ww,c,WL]
   apply aj.split<;>intro d
   .rw[Wv d] at hi
    simp(disch:=omega)only[↓wr,seval,wq,h1,a,b]
    rw[hi]
   .rw[d,Ws (by simp)] at hi
    simp(disch:=omega)only[↓wr,seval,wq,h1,a,b]
    exact⟨k - 1,by omega,i+1,by omega,by push_cast;exact hi,rfl,rfl⟩
  .rw[Xb (by omega)] at hi
   simp only[Yy,nW] at hi
   simp(disch:=omega)only[↓wr,seval,wq,h1,a,b]
   rw[hi]
theorem EP (g:ag) (a:g.Ok) (s:ByteArray):az Tryz.prog 170 [.agg (ak g),gs s] (gi (qY g s)):=az.val (GP g s) (OQ g a s)
theorem Q4 (g:ag) (e:g.Ok) (s:ByteArray) (H:View):ao Tryz.prog 150 [.agg (ak g),gs s] H λr _=>r=gi (Dy g s):=by
 refine ao.of mixed vL ?_
 have h:g.ax.length < 4611686018427387904:=e.ax
 simp(disch:=omega)only[↓wr,seval,wq,qT,ak,encS]
 refine bk.intro (λk T _=>∃ i:Nat,i+k=g.ax.length/\nW s (g.ax.drop i) i=Dy g s/\T 1=gs s/\T 2=.aN (ak g) 0/\T 5=gi i) g.ax.length ?_ ?_
 .exact⟨0,by omega,rfl,rfl,rfl,rfl⟩
 .rintro k T H' ⟨i,hk,hi,h1,a,b⟩
  simp(disch:=omega)only[↓wr,seval,wq,oQ,h1,a,b,ak,encS]
  apply aj.dec<;>intro f
  .have c:g.ax[i]?=some (g.ax[i]'(by omega)):=Wp (by omega)
   rw[fS (show i < g.ax.length by omega)] at hi
   generalize g.ax[i]'(by omega)=t at c hi
   simp only[WZ,nW] at hi
   simp(disch:=omega)only[↓wr,seval,wq,h1,a,b,ak,encS,Ww,c,WL]
   apply aj.split<;>intro d
   .rw[Wv d] at hi
    simp(disch:=omega)only[↓wr,seval,wq,h1,a,b]
    rw[hi]
   .rw[d,Ws (by simp)] at hi
    simp(disch:=omega)only[↓wr,seval,wq,h1,a,b]
    exact⟨k - 1,by omega,i+1,by omega,by push_cast;exact hi,rfl,rfl⟩
  .rw[Xb (by omega)] at hi
   simp only[Yy,nW] at hi
   simp(disch:=omega)only[↓wr,seval,wq,h1,a,b]
   rw[hi]
theorem QE (g:ag) (a:g.Ok) (s:ByteArray):az Tryz.prog 150 [.agg (ak g),gs s] (gi (Dy g s)):=az.val (GP g s) (Q4 g a s)
def jz (n:Int):List Term->Int->Option Int
 | [],EL=>some EL
 | t :: r,EL=>if t.level=n then (if EL≠0/\EL≠t.assoc then none else jz n r t.assoc) else jz n r EL
def ig (l:List Term) (n:Int):Bool:=match jz n l 0 with
 | some w=>w != 0
 | none=>false
theorem LA (g:ag) (l:g.Ok) (n:Int) (H:View):ao Tryz.prog 171 [.agg (ak g),gi n] H λr _=>r=gb (ig g.an n):=by
 refine ao.of mixed tK ?_
 have p:g.an.length < 4611686018427387904:=l.an
 simp(disch:=omega)only[↓wr,seval,wq,oY,ak,encS]
 refine bk.intro (λk T _=>∃ (i:Nat) (w:Int),i+k=g.an.length/\jz n (g.an.drop i) w=jz n g.an 0/\T 1=gi n/\T 2=.aN (ak g) 0/\T 5=gi w/\T 6=gi i) g.an.length ?_ ?_
 .exact⟨0,0,by omega,rfl,rfl,rfl,rfl,rfl⟩
 .rintro k T H' ⟨i,w,hk,hi,h1,c,d,f⟩
  simp(disch:=omega)only[↓wr,seval,wq,nz,h1,c,d,f,ak]
  apply aj.dec<;>intro o
  .have h:g.an[i]?=some (g.an[i]'(by omega)):=Wp (by omega)
   rw[fS (show i < g.an.length by omega)] at hi
   generalize g.an[i]'(by omega)=t at h hi
   simp only[jz] at hi
   simp(disch:=omega)only[↓wr,seval,wq,h1,c,d,f,ak,dp,Ww,h,WL]
   intro m hm
   try simp(disch:=omega)only[↓wr,seval,wq,h1,c,d,f]
   apply aj.ne<;>intro j
   .rw[Ws j] at hi
    simp(disch:=omega)only[↓wr,seval,wq,h1,c,d,f]
    exact⟨k - 1,by omega,i+1,w,by omega,hi,by first | rfl | exact⟨rfl,rfl⟩ | exact⟨rfl,rfl,rfl⟩⟩
   .rw[Wv j] at hi
    repeat' (first | ((first|apply aj.dec|apply aj.eq|apply aj.ne|apply aj.split)<;>intro)|(simp(disch:=omega)only[↓wr,seval,wq,h1,c,d,f]))
    .rename_i a b
     rw[Wv ⟨a,b⟩] at hi
     simp only[ig,<-hi]
    .rename_i a b
     rw[Ws (λe=>e.2 b)] at hi
     exact⟨k - 1,by omega,i+1,_,by omega,hi,by first | rfl | exact⟨rfl,rfl⟩ | exact⟨rfl,rfl,rfl⟩⟩
    .rename_i a
     rw[Ws (λe=>e.1 a)] at hi
     exact⟨k - 1,by omega,i+1,_,by omega,hi,by first | rfl | exact⟨rfl,rfl⟩ | exact⟨rfl,rfl,rfl⟩⟩
  .rw[Xb (by omega)] at hi
   simp only[jz] at hi
   simp(disch:=omega)only[↓wr,seval,wq,h1,c,d,f]
   simp only[ig,<-hi]
theorem Lq (g:ag) (a:g.Ok) (n:Int):az Tryz.prog 171 [.agg (ak g),gi n] (gb (ig g.an n)):=az.val (Hc g n) (LA g a n)
def te (g:ag) (t:Term):Bool:=(List.range t.level.toNat).all λk=>ig g.an ((k:Int)+1)
def lH (g:ag) (i:Int) (t:Term):Bool :=
 qq (fP t.name) && (qY g t.name == i) && decide (0<=t.level) && decide (t.level<=24) && decide (0<=t.assoc) && decide (t.assoc<=3) && ((t.level == 0) == (t.assoc == 0)) && te g t
def oL (g:ag):List Term->Int->Bool
 | [],_=>true
 | t :: r,i=>lH g i t && oL g r (i+1)
def ly (g:ag):Bool:=decide (g.an.length<=24) && oL g g.an 0
def na:SC :=
 ai [ai [af [aa 63 5,ay 64 1 4,au 65 64,aZ 66 .leq 63 65],cp 66 (.exit 2)],.block 3 (ai [af [bj 69 4 1,aa 70 5,aT 71 171 [69,70],cW 72 71],bf 72 (ai [af [bc 2 false],.ret])]),af [aa 67 5,aF 68 .add 67 1,aa 5 68]]
def mV:SC :=
 ai [ai [af [aa 10 3,ay 11 0 1,au 12 11,aQ 13 12,aZ 14 .lss 10 13],cp 14 (.exit 0)],.block 1 (ai [.region false [⟨none,[ay 17 0 1,au 18 17,aa 19 3,aY 20 3 18 19,bj 21 3 20,((some 4),.op (.alloc [(.val (.string ⟨#[]⟩)),(.val (.int .i64 0)),(.val (.int .i64 0))])),df 3 4 21]⟩],ai [.region false [⟨none,[ay 22 0 4,au 23 22,aT 24 169 [23],cW 25 24,aa 26 25]⟩,⟨(some (26,false)),[bj 27 4 1,ay 28 0 4,au 29 28,aT 30 170 [27,29],aa 31 3,aZ 32 .neq 30 31]⟩,⟨none,[b6 33 26 32,aa 34 33]⟩,⟨(some (34,false)),[ay 35 1 4,au 36 35,aF 37 .lss 36 0]⟩,⟨none,[b6 38 34 37,aa 39 38]⟩,⟨(some (39,false)),[ay 40 1 4,au 41 40,aF 42 .gtr 41 24]⟩,⟨none,[b6 43 39 42,aa 44 43]⟩,⟨(some (44,false)),[ay 45 2 4,au 46 45,aF 47 .lss 46 0]⟩,⟨none,[b6 48 44 47,aa 49 48]⟩,⟨(some (49,false)),[ay 50 2 4,au 51 50,aF 52 .gtr 51 3]⟩,⟨none,[b6 53 49 52,aa 54 53]⟩,⟨(some (54,false)),[ay 55 1 4,au 56 55,aF 57 .eql 56 0,ay 58 2 4,au 59 58,aF 60 .eql 59 0,((some 61),.op (.beq false (.tmp 57) (.tmp 60)))]⟩,⟨none,[b6 62 54 61]⟩],bf 62 (ai [af [bc 2 false],.ret])],af [bb 5 1],cz 2 na]),af [aa 15 3,aF 16 .add 15 1,aa 3 16]]
def oZ:SF:=⟨ai [af [cJ 1 0,bc 2 false],ai [af [ay 6 0 1,au 7 6,aQ 8 7,aF 9 .gtr 8 24],bf 9 (ai [af [bc 2 false],.ret])],ai [af [bb 3 0],cz 0 mV],af [bc 2 true],.ret],
 [.tmp 2],73⟩
theorem tX:aG Tryz.prog 104 [1]=some oZ:=by kernel_rfl
def om:SC :=
 ai [ai [af [aa 14 3,ay 15 1 1,au 16 15,aQ 17 16,aZ 18 .lss 14 17],cp 18 (.exit 0)],.block 1 (ai [.region false [⟨none,[ay 21 1 1,au 22 21,aa 23 3,aY 24 1 22 23,au 25 24,aT 26 172 [25],cW 27 26,aa 28 27]⟩,⟨(some (28,false)),[bj 29 4 1,ay 30 1 1,au 31 30,aa 32 3,aY 33 1 31 32,au 34 33,aT 35 150 [29,34],aa 36 3,aZ 37 .neq 35 36]⟩,⟨none,[b6 38 28 37,aa 39 38]⟩,⟨(some (39,false)),[bj 40 4 1,ay 41 1 1,au 42 41,aa 43 3,aY 44 1 42 43,au 45 44,aT 46 170 [40,45],aF 47 .geq 46 0]⟩,⟨none,[b6 48 39 47]⟩],bf 48 (ai [af [bc 2 false],.ret])]),af [aa 19 3,aF 20 .add 19 1,aa 3 20]]
def pY:SF:=⟨ai [af [cJ 1 0,bc 2 false],ai [.region false [⟨none,[ay 4 1 1,au 5 4,aQ 6 5,aF 7 .lss 6 1,aa 8 7]⟩,⟨(some (8,false)),[ay 9 1 1,au 10 9,aQ 11 10,aF 12 .gtr 11 16]⟩,⟨none,[b6 13 8 12]⟩],bf 13 (ai [af [bc 2 false],.ret])],ai [af [bb 3 0],cz 0 om],af [bc 2 true],.ret],
 [.tmp 2],49⟩
theorem uH:aG Tryz.prog 105 [1]=some pY:=by kernel_rfl
def oC:SC :=
 ai [ai [af [aa 23 5,ay 24 1 3,au 25 24,aQ 26 25,aZ 27 .lss 23 26],cp 27 (.exit 0)],.block 1 (ai [.region false [⟨none,[bj 30 4 2,ay 31 1 3,au 32 31,aa 33 5,aY 34 1 32 33,au 35 34,aT 36 74 [30,35],cW 37 36,aa 38 37]⟩,⟨(some (38,false)),[ay 39 1 3,au 40 39,aa 41 5,aY 42 1 40 41,au 43 42,aF 44 .geq 43 0,aa 45 44]⟩,⟨(some (45,true)),[ay 46 2 3,au 47 46,aF 48 .eql 47 (-1)]⟩,⟨(some (38,false)),[fe 49 45 48]⟩,⟨none,[b6 50 38 49]⟩],bf 50 (ai [af [bc 4 false],.ret])]),af [aa 28 5,aF 29 .add 28 1,aa 5 29]]
def qy:SF:=⟨ai [af [cJ 2 0,cJ 3 1,bc 4 false],ai [.region false [⟨none,[ay 6 1 3,au 7 6,aQ 8 7,aF 9 .gtr 8 6,aa 10 9]⟩,⟨(some (10,false)),[ay 11 2 3,au 12 11,aF 13 .lss 12 (-1)]⟩,⟨none,[b6 14 10 13,aa 15 14]⟩,⟨(some (15,false)),[ay 16 2 3,au 17 16,ay 18 0 2,au 19 18,aQ 20 19,aZ 21 .geq 17 20]⟩,⟨none,[b6 22 15 21]⟩],bf 22 (ai [af [bc 4 false],.ret])],ai [af [bb 5 0],cz 0 oC],af [bc 4 true],.ret],
 [.tmp 4],51⟩
theorem vh:aG Tryz.prog 106 [2,3]=some qy:=by kernel_rfl
def nj:SC :=
 ai [ai [af [aa 39 4,ay 40 2 1,au 41 40,aQ 42 41,aZ 43 .lss 39 42],cp 43 (.exit 0)],.block 1 (ai [af [ay 46 2 1,au 47 46,aa 48 4,aY 49 3 47 48,bj 50 3 49,((some 5),.op (.alloc [(.val (.int .i64 0)),(.emp 1),(.val (.int .i64 0))])),df 3 5 50],ai [.region false [⟨none,[ay 51 0 5,au 52 51,aF 53 .lss 52 0,aa 54 53]⟩,⟨(some (54,false)),[ay 55 0 5,au 56 55,aa 57 3,aF 58 .add 57 1,aZ 59 .gtr 56 58]⟩,⟨none,[b6 60 54 59,aa 61 60]⟩,⟨(some (61,false)),[bj 62 4 1,bj 63 3 5,aT 64 106 [62,63],cW 65 64]⟩,⟨none,[b6 66 61 65]⟩],bf 66 (ai [af [bc 2 false],.ret])],af [ay 67 0 5,au 68 67,aa 69 3,aZ 70 .gtr 68 69],bf 70 (af [ay 71 0 5,au 72 71,aa 3 72])]),af [aa 44 4,aF 45 .add 44 1,aa 4 45]]
def oT:SF:=⟨ai [af [cJ 1 0,bc 2 false],ai [.region false [⟨none,[bj 6 4 1,aT 7 104 [6],cW 8 7,aa 9 8]⟩,⟨(some (9,false)),[bj 10 4 1,aT 11 105 [10],cW 12 11]⟩,⟨none,[b6 13 9 12,aa 14 13]⟩,⟨(some (14,false)),[ay 15 2 1,au 16 15,aQ 17 16,aF 18 .lss 17 1]⟩,⟨none,[b6 19 14 18,aa 20 19]⟩,⟨(some (20,false)),[ay 21 2 1,au 22 21,aQ 23 22,aF 24 .gtr 23 40]⟩,⟨none,[b6 25 20 24,aa 26 25]⟩,⟨(some (26,false)),[ay 27 3 1,au 28 27,aF 29 .lss 28 0]⟩,⟨none,[b6 30 26 29,aa 31 30]⟩,⟨(some (31,false)),[ay 32 3 1,au 33 32,ay 34 1 1,au 35 34,aQ 36 35,aZ 37 .geq 33 36]⟩,⟨none,[b6 38 31 37]⟩],bf 38 (ai [af [bc 2 false],.ret])],af [bb 3 (-1)],ai [af [bb 4 0],cz 0 nj],af [aa 73 3,ay 74 1 1,au 75 74,aQ 76 75,aF 77 .sub 76 1,aZ 78 .eql 73 77,aa 2 78],.ret],
 [.tmp 2],79⟩
theorem tJ:aG Tryz.prog 50 [1]=some oT:=by kernel_rfl
theorem My (g:ag) (p:g.Ok) (H:View):ao Tryz.prog 104 [.agg (ak g)] H λr _=>r=gb (ly g):=by
 refine ao.of mixed tX ?_
 simp(disch:=omega)only[↓wr,seval,wq,oZ,ak,encS]
 apply aj.dec<;>intro h
 .simp(disch:=omega)only[↓wr,seval,wq]
  simp[ly,show ¬ g.an.length<=24 by omega]
 .have hle:g.an.length<=24:=by omega
  simp(disch:=omega)only[↓wr,seval,wq]
  refine bk.intro (λk T _=>∃ i:Nat,i+k=g.an.length/\oL g (g.an.drop i) i=oL g g.an 0/\T 1=.aN (ak g) 0/\T 3=gi i) g.an.length ?_ ?_
  .exact⟨0,by omega,rfl,rfl,rfl⟩
  .rintro k T H' ⟨i,hk,hi,h1,d⟩
   simp(disch:=omega)only[↓wr,seval,wq,mV,h1,d,ak]
   apply aj.dec<;>intro z
   .have f:g.an[i]?=some (g.an[i]'(by omega)):=Wp (by omega)
    rw[fS (show i < g.an.length by omega)] at hi
    have b:g.an[i]'(by omega)∈g.an:=WA _
    generalize g.an[i]'(by omega)=t at f hi b
    obtain⟨⟨A,B⟩,⟨C,D⟩⟩:=p.term t b
    simp only[oL] at hi
    have a:lH g i t=false->gb false=gb (ly g):=λe=>by rw[e,XQ] at hi;simp[ly,<-hi]
    simp(disch:=omega)only[↓wr,seval,wq,h1,d,ak,dp,Ww,f,WL]
    intro m hm
    try simp(disch:=omega)only[↓wr,seval,wq,h1,d]
    refine aq.pure (Md t.name) ?_
    repeat' (first | ((first|apply aj.dec|apply aj.eq|apply aj.ne|apply aj.split)<;>intro)|(simp(disch:=omega)only[↓wr,seval,wq,h1,d,ak]))
    all_goals try (refine a ?_;simp[lH, *];done)
    rename_i s
    refine aq.pure (EP g p t.name) ?_
    repeat' (first | ((first|apply aj.dec|apply aj.eq|apply aj.ne|apply aj.split)<;>intro)|(simp(disch:=omega)only[↓wr,seval,wq,h1,d,ak]))
    all_goals try (refine a ?_;simp[lH, *];done)
    all_goals try (refine a ?_;simp[lH];grind)
    rename_i E K L M N F
    have c:lH g i t=te g t:=by
     have u:((t.level == 0) == (t.assoc == 0))=true:=by simpa using F
     simp[lH,s,E,u,show (0:Int)<=t.level by omega,show t.level<=24 by omega,show (0:Int)<=t.assoc by omega,show t.assoc<=3 by omega]
    refine bk.intro (λv T l=>∃ j:Nat,1<=j/\j+v=t.level.toNat+1/\(∀ q:Nat,q+1 < j->ig g.an ((q:Int)+1)=true)/\T 1=.aN (ak g) 0/\T 3=gi i/\T 4=.ptr m 0 0/\l m=.arr 3 [[gs t.name,gi t.level,gi t.assoc]]/\T 5=gi j) t.level.toNat ?_ ?_
    .refine⟨1,by omega,by omega,λq w=>by omega,?_⟩
     simp(disch:=omega)only[↓wr,↓reduceIte,wq,Nat.reduceEqDiff,Nat.reduceAdd,Nat.reduceLT,Nat.reduceLeDiff,Int.reduceNeg,Int.reduceToNat,reduceCtorEq,h1,d,ak]
     rfl
    .rintro v O l ⟨j,G,I,n,f1,f3,f4,o,f5⟩
     simp(disch:=omega)only[↓wr,seval,wq,na,f1,f3,f4,f5,o]
     apply aj.dec<;>intro J
     .simp(disch:=omega)only[↓wr,seval,wq,f1,f3,f4,f5,o,ak]
      refine aq.pure (Lq g p j) ?_
      repeat' (first | ((first|apply aj.dec|apply aj.eq|apply aj.ne|apply aj.split)<;>intro)|(simp(disch:=omega)only[↓wr,seval,wq,f1,f3,f4,f5,o,ak]))
      .rename_i x
       refine⟨v - 1,by omega,j+1,by omega,by omega,λq w=>?_,by first | rfl | exact⟨rfl,rfl⟩ | exact⟨rfl,rfl,rfl⟩⟩
       by_cases e:q+1=j
       .have:(q:Int)+1=j:=by omega
        rw[this];exact x
       .exact n q (by omega)
      .rename_i x
       refine a ?_
       rw[c,te,List.all_eq_false]
       refine⟨j - 1,by simp;omega,?_⟩
       have:((j - 1:Nat):Int)+1=j:=by omega
       rw[this,x];simp
     .simp(disch:=omega)only[↓wr,seval,wq,f1,f3,f4,f5,o]
      refine⟨k - 1,by omega,i+1,by omega,?_,by first | rfl | exact⟨rfl,rfl⟩ | exact⟨rfl,rfl,rfl⟩⟩
      have y:te g t=true:=by
       rw[te,WU]
       intro q w
       exact n q (by simp at w;omega)
      rw[c,y,Xj] at hi
      push_cast;exact hi
   .rw[Xb (by omega)] at hi
    simp only[oL] at hi
    simp(disch:=omega)only[↓wr,seval,wq,h1,d]
    simp[ly,hle,<-hi]
theorem MV (g:ag) (a:g.Ok):az Tryz.prog 104 [.agg (ak g)] (gb (ly g)):=az.val (eR g) (My g a)
def ph (g:ag) (i:Int) (s:ByteArray):Bool:=gZ (fP s) && (Dy g s == i) && decide (qY g s < 0)
def re (g:ag):List ByteArray->Int->Bool
 | [],_=>true
 | s :: r,i=>ph g i s && re g r (i+1)
def mr (g:ag):Bool:=decide (1<=g.ax.length) && decide (g.ax.length<=16) && re g g.ax 0
theorem Ob (g:ag) (h:g.Ok) (H:View):ao Tryz.prog 105 [.agg (ak g)] H λr _=>r=gb (mr g):=by
 refine ao.of mixed uH ?_
 repeat' (first | ((first|apply aj.dec|apply aj.eq|apply aj.ne|apply aj.split)<;>intro)|(simp(disch:=omega)only[↓wr,seval,wq,pY,ak,encS]))
 .simp[mr,show ¬ 1<=g.ax.length by omega]
 .simp[mr,show ¬ g.ax.length<=16 by omega]
 .have hle:g.ax.length<=16:=by omega
  refine bk.intro (λk T _=>∃ i:Nat,i+k=g.ax.length/\re g (g.ax.drop i) i=re g g.ax 0/\T 1=.aN (ak g) 0/\T 3=gi i) g.ax.length ?_ ?_
  .exact⟨0,by omega,rfl,rfl,rfl⟩
  .rintro k T H' ⟨i,hk,hi,h1,c⟩
   simp(disch:=omega)only[↓wr,seval,wq,om,h1,c,ak,encS]
   apply aj.dec<;>intro j
   .have b:g.ax[i]?=some (g.ax[i]'(by omega)):=Wp (by omega)
    rw[fS (show i < g.ax.length by omega)] at hi
    generalize g.ax[i]'(by omega)=t at b hi
    simp only[re] at hi
    have a:ph g i t=false->gb false=gb (mr g):=λe=>by rw[e,XQ] at hi;simp[mr,<-hi]
    simp(disch:=omega)only[↓wr,seval,wq,h1,c,ak,encS,Ww,b,WL]
    refine aq.pure (Eu t) ?_
    repeat' (first | ((first|apply aj.dec|apply aj.eq|apply aj.ne|apply aj.split)<;>intro)|(simp(disch:=omega)only[↓wr,seval,wq,h1,c,ak,encS,Ww,b,WL]))
    all_goals try (refine a ?_;simp[ph, *];done)
    rename_i d
    refine aq.pure (QE g h t) ?_
    repeat' (first | ((first|apply aj.dec|apply aj.eq|apply aj.ne|apply aj.split)<;>intro)|(simp(disch:=omega)only[↓wr,seval,wq,h1,c,ak,encS,Ww,b,WL]))
    all_goals try (refine a ?_;simp[ph, *];done)
    rename_i f
    refine aq.pure (EP g h t) ?_
    repeat' (first | ((first|apply aj.dec|apply aj.eq|apply aj.ne|apply aj.split)<;>intro)|(simp(disch:=omega)only[↓wr,seval,wq,h1,c,ak,encS]))
    all_goals try (refine a ?_;simp[ph, *];done)
    rename_i l
    refine⟨k - 1,by omega,i+1,by omega,?_,by first | rfl | exact⟨rfl,rfl⟩ | exact⟨rfl,rfl,rfl⟩⟩
    have:ph g i t=true:=by simp[ph,d,f,show qY g t < 0 by omega]
    rw[this,Xj] at hi
    push_cast;exact hi
   .rw[Xb (by omega)] at hi
    simp only[re] at hi
    simp(disch:=omega)only[↓wr,seval,wq,h1,c]
    simp[mr,hle,show 1<=g.ax.length by omega,<-hi]
theorem Nj (g:ag) (a:g.Ok):az Tryz.prog 105 [.agg (ak g)] (gb (mr g)):=az.val (eR g) (Ob g a)
def pB (g:ag) (prec s:Int):Bool:=dZ g s && !(decide (0<=s) && prec == -1)
def ju (g:ag) (r:aW):Bool:=decide (r.right.length<=6) && decide (-1<=r.prec) && decide (r.prec < g.an.length) && r.right.all (pB g r.prec)
theorem HQ (g:ag) (r:aW):∀ v∈[V.agg (ak g),V.agg (aU r)],Tree v:=by
 intro v a;simp at a
 rcases a with rfl | rfl
 .exact cX _ (cQ g)
 .exact cX _ (gI r)
theorem Na (g:ag) (r:aW) (hr:aC r.right/\∀ x∈r.right,ba x) (H:View):ao Tryz.prog 106 [.agg (ak g),.agg (aU r)] H λv _=>v=gb (ju g r):=by
 refine ao.of mixed vh ?_
 repeat' (first | ((first|apply aj.dec|apply aj.eq|apply aj.ne|apply aj.split)<;>intro)|(simp(disch:=omega)only[↓wr,seval,wq,qy,ak,encS,aU,encI]))
 .simp[ju,show ¬ r.right.length<=6 by omega]
 .simp[ju,show ¬ -1<=r.prec by omega]
 .simp[ju,show ¬ r.prec < g.an.length by omega]
 .have hle:r.right.length<=6:=by omega
  have j : -1<=r.prec:=by omega
  have l:r.prec < g.an.length:=by omega
  refine bk.intro (λk T _=>∃ i:Nat,i+k=r.right.length/\(r.right.drop i).all (pB g r.prec)=r.right.all (pB g r.prec)/\T 2=.aN (ak g) 0/\T 3=.aN (aU r) 0/\T 5=gi i) r.right.length ?_ ?_
  .exact⟨0,by omega,rfl,rfl,rfl,rfl⟩
  .rintro k T H' ⟨i,hk,hi,d,f,h⟩
   simp(disch:=omega)only[↓wr,seval,wq,oC,d,f,h,aU,encI]
   apply aj.dec<;>intro o
   .have b:r.right[i]?=some (r.right[i]'(by omega)):=Wp (by omega)
    rw[fS (show i < r.right.length by omega)] at hi
    have a:r.right[i]'(by omega)∈r.right:=WA _
    generalize r.right[i]'(by omega)=t at b hi a
    have m:=hr.2 t a
    simp only[XK] at hi
    have c:pB g r.prec t=false->gb false=gb (ju g r):=λe=>by rw[e,XQ] at hi;simp only[ju,<-hi,X8]
    have n:pB g r.prec t=true->(r.right.drop (i+1)).all (pB g r.prec)=r.right.all (pB g r.prec):=λe=>by rw[e,Xj] at hi;exact hi
    simp(disch:=omega)only[↓wr,seval,wq,d,f,h,ak,encS,aU,encI,Ww,b,WL]
    refine aq.pure (T6 g t m) ?_
    repeat' (first | ((first|apply aj.dec|apply aj.eq|apply aj.ne|apply aj.split)<;>intro)|(simp(disch:=omega)only[↓wr,seval,wq,d,f,h,ak,encS,aU,encI,Ww,b,WL]))
    all_goals first
     | (refine c ?_;simp[pB, *];done)
     | (refine⟨k - 1,by omega,i+1,by omega,n (by simp[pB, *];done),by first | rfl | exact⟨rfl,rfl⟩ | exact⟨rfl,rfl,rfl⟩⟩)
     | skip
   .rw[Xb (by omega)] at hi
    simp only[List.all_nil] at hi
    simp(disch:=omega)only[↓wr,seval,wq,d,f,h]
    simp only[ju,hle,j,l,decide_true,Xj,<-hi]
theorem Nn (g:ag) (r:aW) (hr:aC r.right/\∀ x∈r.right,ba x):az Tryz.prog 106 [.agg (ak g),.agg (aU r)] (gb (ju g r)):=az.val (HQ g r) (Na g r hr)
def jE (g:ag):List aW->Int->Bool
 | [],top=>top == (g.ax.length:Int) - 1
 | r :: l,top=>decide (0<=r.left) && decide (r.left<=top+1) && ju g r && jE g l (if r.left > top then r.left else top)
def bq (g:ag):Bool :=
 ly g && mr g && decide (1<=g.rules.length) && decide (g.rules.length<=40) && decide (0<=g.start) && decide (g.start < g.ax.length) && jE g g.rules (-1)
theorem Mr (g:ag) (h:g.Ok) (H:View):ao Tryz.prog 50 [.agg (ak g)] H λr _=>r=gb (bq g):=by
 refine ao.of mixed tJ ?_
 have o:=h.ax
 unfold aC at o
 simp(disch:=omega)only[↓wr,seval,wq,oT,ak,encS]
 refine aq.pure (MV g h) ?_
 repeat' (first | ((first|apply aj.dec|apply aj.eq|apply aj.ne|apply aj.split)<;>intro)|(simp(disch:=omega)only[↓wr,seval,wq,ak,encS]))
 .rename_i h1
  refine aq.pure (Nj g h) ?_
  repeat' (first | ((first|apply aj.dec|apply aj.eq|apply aj.ne|apply aj.split)<;>intro)|(simp(disch:=omega)only[↓wr,seval,wq,ak,encS]))
  all_goals try (simp[bq, *];done)
  all_goals try (simp[bq];omega)
  rename_i p y z A B
  have hle:g.rules.length<=40:=by omega
  have a:∀ b,jE g g.rules (-1)=b->gb b=gb (bq g):=λb e=>by
   simp[bq,h1,p,show 1<=g.rules.length by omega,hle,show 0<=g.start by omega,show g.start < g.ax.length by omega,e]
  refine bk.intro (λk T _=>∃ (i:Nat) (w:Int),i+k=g.rules.length/\-1<=w/\w < i/\jE g (g.rules.drop i) w=jE g g.rules (-1)/\T 1=.aN (ak g) 0/\T 3=gi w/\T 4=gi i) g.rules.length ?_ ?_
  .exact⟨0,-1,by omega,by omega,by omega,rfl,rfl,rfl,rfl⟩
  .rintro k T H' ⟨i,w,hk,q,s,hi,f1,f3,f4⟩
   simp(disch:=omega)only[↓wr,seval,wq,nj,f1,f3,f4,ak]
   apply aj.dec<;>intro u
   .have d:g.rules[i]?=some (g.rules[i]'(by omega)):=Wp (by omega)
    rw[fS (show i < g.rules.length by omega)] at hi
    have c:g.rules[i]'(by omega)∈g.rules:=WA _
    generalize g.rules[i]'(by omega)=t at d hi c
    obtain⟨⟨v,x⟩,hp,j,l⟩:=h.av t c
    simp only[jE] at hi
    simp(disch:=omega)only[↓wr,seval,wq,f1,f3,f4,ak,encS,aU,encI,Ww,d,WL]
    intro m hm
    try simp(disch:=omega)only[↓wr,seval,wq,f1,f3,f4]
    repeat' (first | ((first|apply aj.dec|apply aj.eq|apply aj.ne|apply aj.split)<;>intro)|(simp(disch:=omega)only[↓wr,seval,wq,f1,f3,f4,ak,encS,aU,encI]))
    all_goals try (refine a _ ?_;simp only[<-hi];simp;omega)
    rename_i C D
    refine aq.pure (Nn g t ⟨j,l⟩) ?_
    repeat' (first | ((first|apply aj.dec|apply aj.eq|apply aj.ne|apply aj.split)<;>intro)|(simp(disch:=omega)only[↓wr,seval,wq,f1,f3,f4,ak,encS,aU,encI]))
    all_goals simp only[show 0<=t.left by omega,show t.left<=w+1 by omega,decide_true,Xj] at hi
    .rename_i f n
     rw[f,Xj,Wv n] at hi
     exact⟨k - 1,by omega,i+1,_,by omega,by omega,by push_cast;omega,hi,by first | rfl | exact⟨rfl,rfl⟩ | exact⟨rfl,rfl,rfl⟩⟩
    .rename_i f n
     rw[f,Xj,Ws n] at hi
     exact⟨k - 1,by omega,i+1,_,by omega,by omega,by push_cast;omega,hi,by first | rfl | exact⟨rfl,rfl⟩ | exact⟨rfl,rfl,rfl⟩⟩
    .rename_i f
     rw[f,XQ] at hi
     exact a _ hi.symm
   .rw[Xb (by omega)] at hi
    simp only[jE] at hi
    simp(disch:=omega)only[↓wr,seval,wq,f1,f3,f4,ak,encS]
    exact a _ hi.symm
 .rename_i h1;simp[bq,h1]
theorem BU (g:ag) (a:g.Ok):az Tryz.prog 50 [.agg (ak g)] (gb (bq g)):=az.val (eR g) (Mr g a)
inductive cm (α:Type) where
 | nil
 | node (v:α) (l r:cm α)
noncomputable def cm.get {α:Type} (z:α) (t:cm α):Nat->α :=
 cm.rec (motive:=λ_=>Nat->α) (λ_=>z) (λv _ _ gl gr i=>Bool.rec (Bool.rec (gr (i / 2 - 1)) (gl (i / 2)) (Nat.beq (i % 2) 1)) v (Nat.beq i 0)) t
theorem cm.get_nil {α:Type} (z:α) (i:Nat):cm.get z .nil i=z:=rfl
theorem cm.RO {α:Type} (z v:α) (l r:cm α) (i:Nat):cm.get z (.node v l r) i=match Nat.beq i 0 with
  | true=>v
  | false=>match Nat.beq (i % 2) 1 with
   | true=>cm.get z l (i / 2)
   | false=>cm.get z r (i / 2 - 1):=by
 change (Bool.rec (motive:=λ_=>α) _ _ _:α)=_
 cases Nat.beq i 0 with
 | true=>rfl
 | false=>cases Nat.beq (i % 2) 1 <;> rfl
def cm.val {α:Type} (z:α):cm α->α
 | .nil=>z
 | .node v _ _=>v
def cm.left {α:Type} : cm α->cm α
 | .nil=>.nil
 | .node _ l _=>l
def cm.right {α:Type} : cm α->cm α
 | .nil=>.nil
 | .node _ _ r=>r
noncomputable def cm.put {α:Type} (z:α) (x:α) (d:Nat):cm α->Nat->cm α :=
 Nat.rec (motive:=λ_=>cm α->Nat->cm α) (λt _=>t) (λ_ pd t i =>
  Bool.rec (Bool.rec (.node (t.val z) t.left (pd t.right (i / 2 - 1))) (.node (t.val z) (pd t.left (i / 2)) t.right) (Nat.beq (i % 2) 1)) (.node x t.left t.right) (Nat.beq i 0)) d
theorem cm.Rl {α:Type} (z x:α) (d:Nat) (t:cm α) (i:Nat):cm.put z x (d+1) t i=match Nat.beq i 0 with
  | true=>.node x t.left t.right
  | false=>match Nat.beq (i % 2) 1 with
   | true=>.node (t.val z) (cm.put z x d t.left (i / 2)) t.right
   | false=>.node (t.val z) t.left (cm.put z x d t.right (i / 2 - 1)):=by
 change (Bool.rec (motive:=λ_=>cm α) _ _ _:cm α)=_
 cases Nat.beq i 0 with
 | true=>rfl
 | false=>cases Nat.beq (i % 2) 1 <;> rfl
theorem cm.nh {α:Type} (z:α) (t:cm α) (j:Nat):t.get z j=if j=0 then t.val z else if j % 2=1 then t.left.get z (j / 2) else t.right.get z (j / 2 - 1):=by
 cases t with
 | nil=>simp[cm.get_nil,cm.val,cm.left,cm.right]
 | node v l r =>
  simp only[cm.RO,cm.val,cm.left,cm.right]
  by_cases h:j=0
  .subst h;rfl
  .have:Nat.beq j 0=false:=by cases e:Nat.beq j 0 with | true=>exact absurd (Ym e) h | false=>rfl
   rw[this,Ws h]
   simp only
   by_cases a:j % 2=1
   .have:Nat.beq (j % 2) 1=true:=by rw[a];rfl
    rw[this,Wv a]
   .have:Nat.beq (j % 2) 1=false:=by cases e:Nat.beq (j % 2) 1 with | true=>exact absurd (Ym e) a | false=>rfl
    rw[this,Ws a]
theorem cm.nq {α:Type} (z x:α):∀ (d:Nat) (t:cm α) (i j:Nat),i+1 < 2 ^ d->(cm.put z x d t i).get z j=if j=i then x else t.get z j
 | 0,t,i,j,h=>by simp at h
 | d+1,t,i,j,h=>by
  rw[Nat.pow_succ] at h
  simp only[cm.Rl]
  by_cases hi:i=0
  .subst hi
   have:Nat.beq 0 0=true:=rfl
   rw[this]
   simp only
   rw[cm.nh,cm.nh z t]
   simp only[cm.val,cm.left,cm.right]
   by_cases b:j=0
   .rw[Wv b,Wv b]
   .rw[Ws b,Ws b,Ws b]
  .have:Nat.beq i 0=false:=by cases e:Nat.beq i 0 with | true=>exact absurd (Ym e) hi | false=>rfl
   rw[this]
   simp only
   by_cases c:i % 2=1
   .have:Nat.beq (i % 2) 1=true:=by rw[c];rfl
    rw[this]
    simp only
    rw[cm.nh,cm.nh z t]
    simp only[cm.val,cm.left,cm.right]
    by_cases b:j=0
    .subst b;rw[Wv rfl,Ws (λe=>hi e.symm),Wv rfl]
    .rw[Ws b,Ws b]
     by_cases a:j % 2=1
     .rw[Wv a,Wv a,cm.nq z x d _ _ _ (by omega)]
      by_cases e:j=i
      .subst e;simp
      .rw[Ws e,Ws (by omega)]
     .rw[Ws a,Ws a,Ws (λe=>a (by rw[e];exact c))]
   .have:Nat.beq (i % 2) 1=false:=by cases e:Nat.beq (i % 2) 1 with | true=>exact absurd (Ym e) c | false=>rfl
    rw[this]
    simp only
    rw[cm.nh,cm.nh z t]
    simp only[cm.val,cm.left,cm.right]
    by_cases b:j=0
    .subst b;rw[Wv rfl,Ws (λe=>hi e.symm),Wv rfl]
    .rw[Ws b,Ws b]
     by_cases a:j % 2=1
     .rw[Wv a,Wv a,Ws (λe=>c (by rw[<-e];exact a))]
     .rw[Ws a,Ws a,cm.nq z x d _ _ _ (by omega)]
      by_cases e:j=i
      .subst e;simp
      .rw[Ws e,Ws (by omega)]
abbrev deep:Nat:=13
structure ES where
 L:cm V
 H:cm bN
 n:Nat
 w:List Nat
noncomputable def ES.T (s:ES):Env:=s.L.get .any
noncomputable def ES.V (s:ES):View:=s.H.get .dead
noncomputable def ES.put (s:ES) (d:Option Nat) (v:Gv.V):ES:=match d with
 | some t=>⟨s.L.put .any v deep t,s.H,s.n,s.w⟩
 | none=>s
theorem ES.R8 {s:ES} {d:Option Nat} {v:Gv.V} (h:∀ t,d=some t->t < 8000):(s.put d v).T=s.T.put d v:=by
 cases d with
 | none=>rfl
 | some t =>
  funext k
  have:=h t rfl
  simp only[ES.put,ES.T,Env.put]
  rw[cm.nq _ _ _ _ _ _ (by simp[deep];omega)]
noncomputable def IQ (v:V) (eff:aS) (rd:List Nat) (s:ES):Option (V × ES × Rec):=match eff with
 | .none=>some (v,s,⟨rd,[],false,s.n,s.n⟩)
 | .new o=>match Nat.ble s.n 8000 with
  | true=>some (v,⟨s.L,s.H.put .dead o deep s.n,s.n+1,s.w⟩,⟨rd,[],false,s.n,s.n+1⟩)
  | false=>none
 | .eP id o=>match Nat.ble id 8000 with
  | true=>some (v,⟨s.L,s.H.put .dead o deep id,s.n,id :: s.w⟩,⟨rd,[id],false,s.n,s.n⟩)
  | false=>none
 | .dX id o=>match Nat.ble s.n 8000,Nat.ble id 8000 with
  | true,true=>some (v,⟨s.L,(s.H.put .dead .dead deep id).put .dead o deep s.n,s.n+1,id :: s.w⟩,⟨rd,[id],false,s.n,s.n+1⟩)
  | _,_=>none
noncomputable def VM (x:SX) (_:Program) (T:Env) (_:View) (_:Nat):Out:=some (x.at T,.none,[])
noncomputable def U1 (c a b:SX) (_:Program) (T:Env) (_:View) (_:Nat):Out:=match c.at T with
 | .val (.bool t)=>some (if t then a.at T else b.at T,.none,[])
 | _=>none
noncomputable def U0 (sz:Option Nat) (a:SX) (_:Program) (T:Env) (H:View) (_:Nat):Out:=vD sz (a.at T) H
noncomputable def T7 (sz:Nat) (a x:SX) (_:Program) (T:Env) (H:View) (_:Nat):Out:=By sz (a.at T) (x.at T) H
noncomputable def Vd (off:Nat) (x:SX) (_:Program) (T:Env) (_:View) (_:Nat):Out:=zE off (x.at T)
noncomputable def Vr (sz:Nat) (x i:SX) (_:Program) (T:Env) (_:View) (_:Nat):Out:=DU sz (x.at T) (i.at T)
noncomputable def VZ (x:SX) (_:Program) (T:Env) (_:View) (_:Nat):Out:=(cT (x.at T)).map λn=>(bU n,.none,[])
noncomputable def UN (op:BinOp) (x y:SX) (_:Program) (T:Env) (_:View) (_:Nat):Out:=zb op (x.at T) (y.at T)
noncomputable def VE (op:BinOp) (x y:SX) (_:Program) (T:Env) (_:View) (_:Nat):Out:=A7 op (x.at T) (y.at T)
noncomputable def Vq (x:SX) (_:Program) (T:Env) (_:View) (_:Nat):Out:=match x.at T with
 | .val (.bool t)=>some (.val (.bool (!t)),.none,[])
 | _=>none
noncomputable def Vx (i:Nat) (x:SX) (_:Program) (T:Env) (_:View) (_:Nat):Out:=match x.at T with
 | .aO vs=>if i < vs.length then some (vs.getD i .any,.none,[]) else none
 | _=>none
noncomputable def UX (x:SX) (_:Program) (T:Env) (_:View) (_:Nat):Out:=match x.at T with
 | .ptr id i j=>some (.ptr id i j,.none,[])
 | .aN e j=>some (.aN e j,.none,[])
 | .fn f a b=>some (.fn f a b,.none,[])
 | _=>none
noncomputable def eI (s:SI):Program->Env->View->Nat->Out:=match s with
 | .dX x=>VM x
 | .pick c a b=>U1 c a b
 | .load sz a=>U0 sz a
 | .store sz a x=>T7 sz a x
 | .addr o x=>Vd o x
 | .idx sz x i=>Vr sz x i
 | .len x=>VZ x
 | .arith op x y=>UN op x y
 | .yo op x y=>VE op x y
 | .not x=>Vq x
 | .ext i x=>Vx i x
 | .AA x=>UX x
 | s=>λP T H n=>sI P s T H n
theorem MW (s:SI) (P:Program) (T:Env) (H:View) (n:Nat):eI s P T H n=sI P s T H n:=by
 cases s <;> rfl
abbrev iB:=FuncId->List V->ES->Option (V × ES)
noncomputable def M7 (P:Program) (s:SI) (e:ES):Option (V × ES × Rec):=match eI s P e.T e.V e.n with
 | some (v,eff,rd)=>IQ v eff rd e
 | none=>none
noncomputable def N1 (call:iB) (f:SX) (args:List SX) (e:ES):Option (V × ES × Rec):=match f.at e.T with
 | .fn g first cap=>match call g (first ++ args.map (SX.at e.T) ++ cap) e with
  | some (v,e')=>some (v,⟨e.L,e'.H,e'.n,e'.w ++ e.w⟩,⟨[],e'.w,true,e.n,e'.n⟩)
  | none=>none
 | _=>none
noncomputable def eB (P:Program) (call:iB) (b:SB):ES->Option (V × ES × Rec):=match b with
 | .op s=>M7 P s
 | .call f args=>N1 call f args
 | .sX ..=>λ_=>none
noncomputable def J9 (P:Program) (call:iB):List (Option Nat × SB)->List Rec->ES->Option (ES × List Rec)
 | [],a,e=>some (e,a)
 | (d,b) :: r,a,e=>match eB P call b e with
  | some (v,e',c)=>J9 P call r (a ++ [c]) (e'.put d v)
  | none=>none
noncomputable def Se (e:ES):Rec:=⟨[],[],false,e.n,e.n⟩
noncomputable def wJ:List (Option Nat × SB)->List Rec->ES->ES × List Rec
 | [],a,e=>(e,a)
 | (d,_) :: r,a,e=>wJ r (a ++ [Se e]) (e.put d (.aO []))
noncomputable def Nx (P:Program) (call:iB) (ops:List (Option Nat × SB)) (want:Bool) (v:V) (a:List Rec) (e:ES):Option (ES × List Rec):=match v with
 | .val (.bool b)=>match xor b want with
  | true=>some (wJ ops a e)
  | false=>J9 P call ops a e
 | .aO []=>some (wJ ops a e)
 | _=>none
noncomputable def eG (P:Program) (call:iB) (g:SG) (a:List Rec) (e:ES):Option (ES × List Rec):=match g.guard with
 | none=>J9 P call g.ops a e
 | some (d,want)=>Nx P call g.ops want (e.T d) a e
noncomputable def P9 (P:Program) (call:iB):List SG->List Rec->ES->Option (ES × List Rec)
 | [],a,e=>some (e,a)
 | g :: r,a,e=>match eG P call g a e with
  | some (e',a')=>P9 P call r a' e'
  | none=>none
inductive DC where
 | skip
 | region (ps:List (Nat × Nat)) (gs:List SG)
 | seq (x y:DC)
 | cond (c:SX) (x y:DC)
 | block (id:Nat) (c:DC)
 | loop (c:DC)
 | exit (id:Nat)
 | ret
 deriving Inhabited
def NO (recs:List Rec) (ps:List (Nat × Nat)):Bool:=ps.all λ(i,k)=>match recs[i]?,recs[k]? with
 | some a,some b=>De a b
 | _,_=>false
abbrev ER:=Option (Exit × ES)
abbrev xu:=DC->ES->ER
noncomputable def Px:ES->ER:=λe=>some (.normal,e)
noncomputable def Ln (P:Program) (call:iB) (ps:List (Nat × Nat)) (gs:List SG) (e:ES):ER:=match P9 P call gs [] e with
 | some (e',recs)=>match NO recs ps with
  | true=>some (.normal,e')
  | false=>none
 | none=>none
noncomputable def TT (run:xu) (x y:DC) (e:ES):ER:=match run x e with
 | some (.normal,e')=>run y e'
 | r=>r
noncomputable def Sk (run:xu) (c:SX) (x y:DC) (e:ES):ER:=match c.at e.T with
 | .val (.bool true)=>run x e
 | .val (.bool false)=>run y e
 | _=>none
noncomputable def NH (run:xu) (id:Nat) (c:DC) (e:ES):ER:=match run c e with
 | some (r,e')=>some (pE id r,e')
 | none=>none
noncomputable def Sd (run:xu) (c:DC) (e:ES):ER:=match run c e with
 | some (.normal,e')=>run (.loop c) e'
 | r=>r
noncomputable def mw (P:Program) (call:iB) (run:xu) (c:DC):ES->ER:=match c with
 | .skip=>Px
 | .region ps gs=>Ln P call ps gs
 | .seq x y=>TT run x y
 | .cond c x y=>Sk run c x y
 | .block id c=>NH run id c
 | .loop c=>Sd run c
 | .exit id=>λe=>some (.exit id,e)
 | .ret=>λe=>some (.ret,e)
noncomputable def RN (r:SR) (e:ES):Option V:=match r with
 | .tmp t=>some (e.T t)
 | .cell t sz=>match e.T t with
  | .ptr id i j=>match e.V id with
   | .arr _ es=>if i < es.length then mA sz (es.getD i []) j else none
   | _=>none
  | .aN e j=>mA sz e j
  | _=>none
noncomputable def v7:List SR->ES->Option (List V)
 | [],_=>some []
 | r :: l,e=>match RN r e,v7 l e with
  | some v,some vs=>some (v :: vs)
  | _,_=>none
noncomputable def mX:List V->Nat->cm V->cm V
 | [],_,t=>t
 | v :: vs,i,t=>mX vs (i+1) (t.put .any v deep i)
structure DF where
 code:DC
 res:List SR
 n:Nat
noncomputable def UI (l:List SR) (r:ER):Option (V × ES):=match r with
 | some (.ret,e)=>(v7 l e).map λvs=>(vP vs,e)
 | some (.normal,e)=>(v7 l e).map λvs=>(vP vs,e)
 | _=>none
noncomputable def UF (m:Nat) (r:Option (V × ES)):Option (V × ES):=match r with
 | some (v,e)=>some (v,⟨e.L,e.H,e.n,e.w.filter λid=>Nat.blt id m⟩)
 | none=>none
noncomputable def Ue (run:xu) (F:DF) (vs:List V) (e:ES):Option (V × ES):=match Nat.ble vs.length F.n,Nat.ble F.n 8000 with
 | true,true=>UF e.n (UI F.res (run F.code ⟨mX vs 0 .nil,e.H,e.n,[]⟩))
 | _,_=>none
abbrev xF:=FuncId->List V->View->Option V
noncomputable def F2 (P:Program) (tab:List (FuncId × DF)) (ext:xF) (run:xu) (g:FuncId) (vs:List V) (e:ES):Option (V × ES):=match ext g vs e.V with
 | some t=>some (t,⟨e.L,e.H,e.n,[]⟩)
 | none=>match tab.find? (λp=>Nat.beq p.1 g) with
  | some (_,F)=>Ue run F vs e
  | none=>none
noncomputable def HT (P:Program) (tab:List (FuncId × DF)) (ext:xF):Nat->xu
 | 0=>λ_ _=>none
 | k+1=>mw P (F2 P tab ext (HT P tab ext k)) (HT P tab ext k)
def CM (all:List Oper) (ls:List Nat):List (Nat × Nat) :=
 let b:=fM all []
 (ls.zipIdx.map λ(x,i)=>(ls.zipIdx.filter λ(y,k)=>decide (i < k) && !(ordered b i k || x == 0 || y == 0 || (decide (x<=1) && decide (y<=1)))).map λ(_,k)=>(i,k)).flatten
def IZ (P:Program) (n:Nat) (fz:List Nat) (ops:List Oper) (draw:Bool):Option DC:=match dA P n ops ⟨fz,false⟩ ops with
 | none=>none
 | some l=>if !(group l).all td then none else
  if draw then (if lZ ops then some (.region (CM ops (l.map λs=>je P false s.b)) (group l)) else none) else some (.region [] (group l))
def js (P:Program) (n:Nat) (fz:List Nat):Code->Option DC
 | .skip=>some .skip
 | .region _ ops draw=>IZ P n fz ops.toList draw
 | .seq x y=>match js P n fz x,js P n fz y with
  | some a,some b=>some (.seq a b)
  | _,_=>none
 | .cond c x y=>match js P n fz x,js P n fz y with
  | some a,some b=>some (.cond (SX.of c) a b)
  | _,_=>none
 | .block id c=>(js P n fz c).map (.block id)
 | .loop c=>(js P n fz c).map .loop
 | .exit id=>some (.exit id)
 | .ret=>some .ret
 | _=>none
abbrev Wn (l:List (Option Nat × SB)):DC:=.region [] [⟨none,l⟩]
def Ge (P:Program) (f:FuncId) (fz:List Nat):Option DF:=match P.funcs[f]? with
 | some fn=>match fn.body with
  | some c=>match js P fn.ntmps fz c,fR P fn.results.toList,dw P f with
   | some sc,some rs,true=>some ⟨sc,rs,fn.ntmps⟩
   | _,_,_=>none
  | none=>none
 | none=>none
section
variable {P:Program} {n:Nat} {all:List Oper}
def jg (h:Heap) (e:ES):Prop:=e.V=h.view/\e.n=h.length
def Calm (e e':ES) (h h':Heap):Prop:=h.length<=h'.length/\(∀ id,id < h.length->¬ id∈e'.w->h'.view id=h.view id/\¬ id∈e.w)
theorem Calm.trans {a b c:ES} {h1 e f:Heap} (x:Calm a b h1 e) (y:Calm b c e f):Calm a c h1 f :=
 ⟨Xo x.1 y.1,λid d hw =>
  let ⟨g,d1⟩:=y.2 id (W4 d x.1) hw
  let ⟨h,d2⟩:=x.2 id d d1
  ⟨g.trans h,d2⟩⟩
theorem Calm.refl (e:ES) (h:Heap):Calm e e h h:=⟨Wz _,λ_ _ hw=>⟨rfl,hw⟩⟩
def kQ (P:Program) (call:iB):Prop:=∀ g vs e v e' h,call g vs e=some (v,e')->jg h e ->
 dw P g=true/\∃ h',bC P g vs h v h'/\jg h' e'/\(∀ id,id < h.length->¬ id∈e'.w->h'.view id=h.view id)/\∀ id,id∈e'.w->id < h.length
def vt (P:Program) (run:xu):Prop:=∀ (n:Nat) (fz:List Nat) (c:Code) (sc:DC),js P n fz c=some sc->n<=8000->∀ (e e':ES) (r:Exit) (h:Heap),run sc e=some (r,e')->jg h e ->
 ∃ h',cL P n c e.T h r e'.T h'/\jg h' e'/\Calm e e' h h'/\∀ c0,c=.loop c0->pH P n c0 e.T h r e'.T h'
theorem Nk {h:Heap} {e:ES} {d:Option Nat} {v:V} (he:jg h e):jg h (e.put d v):=by cases d <;> exact he
theorem R6 {e:ES} {d:Option Nat} {v:V} : (e.put d v).w=e.w:=by cases d <;> rfl
theorem Rf {h:Heap} {e e':ES} {b:Heap} {d:Option Nat} {v:V} (x:Calm e e' h b):Calm e (e'.put d v) h b:=⟨x.1,λid a hw=>x.2 id a (by rw[R6] at hw;exact hw)⟩
theorem B3 {a:Nat} (h:Nat.ble a 8000=true):a+1 < 2 ^ 13:=by
 have:=Nat.le_of_ble_eq_true h
 omega
theorem Td {h:Heap} {e e':ES} {v v':V} {eff:aS} {rd:List Nat} {c:Rec} (he:jg h e) (a:IQ v eff rd e=some (v',e',c)) :
  v'=v/\e'.T=e.T/\e'.V=eff.view h.view h.length/\e'.n=(eff.apply h).length/\c=⟨rd,eff.wr,false,h.length,(eff.apply h).length⟩/\e'.w=eff.wr ++ e.w:=by
 obtain⟨h1,b⟩:=he
 unfold IQ at a
 cases eff with
 | none =>
  simp only[Wu,Wx] at a
  obtain⟨rfl,rfl,rfl⟩:=a
  exact⟨rfl,rfl,h1,b,by rw[b];rfl,rfl⟩
 | new o =>
  simp only at a
  split at a
  .rename_i d
   simp only[Wu,Wx] at a
   obtain⟨rfl,rfl,rfl⟩:=a
   refine⟨rfl,rfl,?_,by simp[gG,b],by simp[gG,b,aS.wr],rfl⟩
   funext k
   simp only[ES.V,aS.view,View.set]
   rw[cm.nq _ _ _ _ _ _ (B3 d),b]
   have:=congrFun h1 k
   simp only[ES.V] at this
   rw[this]
  .simp at a
 | eP id o =>
  simp only at a
  split at a
  .rename_i d
   simp only[Wu,Wx] at a
   obtain⟨rfl,rfl,rfl⟩:=a
   refine⟨rfl,rfl,?_,by simp[gG,b],by simp[gG,b,aS.wr],rfl⟩
   funext k
   simp only[ES.V,aS.view,View.set]
   rw[cm.nq _ _ _ _ _ _ (B3 d)]
   have:=congrFun h1 k
   simp only[ES.V] at this
   rw[this]
  .simp at a
 | dX id o =>
  simp only at a
  split at a
  .rename_i f g
   simp only[Wu,Wx] at a
   obtain⟨rfl,rfl,rfl⟩:=a
   refine⟨rfl,rfl,?_,by simp[gG,b],by simp[gG,b,aS.wr],rfl⟩
   funext k
   simp only[ES.V,aS.view,View.set]
   rw[cm.nq _ _ _ _ _ _ (B3 f),cm.nq _ _ _ _ _ _ (B3 g),b]
   have:=congrFun h1 k
   simp only[ES.V] at this
   rw[this]
  .simp at a
theorem TP {o:Oper} {e e':ES} {h:Heap} {s:SI} {v:V} {c:Rec} (i:dq n all e.T o=some true) (j:∀ v eff rd,sI P s e.T h.view h.length=some (v,eff,rd)->bR P o e.T h.view h.length=some (v,eff,rd))
  (he:jg h e) (b:M7 P s e=some (v,e',c)):∃ d,dH P n all o e.T h v d c.rd c.wr c.call/\jg d e'/\e'.T=e.T/\Calm e e' h d/\kV (sS P s) c.rd c.wr c.call h.length d.length/\c.lo=h.length/\c.hi=d.length:=by
 unfold M7 at b
 rw[MW,he.1,he.2] at b
 split at b
 .rename_i v0 eff rd f
  obtain⟨rfl,g1,g2,g3,rfl,g5⟩:=Td he b
  have g:=j _ _ _ f
  have st:=dH.op (P:=P) (n:=n) (all:=all) i g
  refine⟨eff.apply h,st,⟨?_,g3⟩,g1,⟨tq st,λid a hw=>?_⟩,⟨λk=>?_,λh1=>?_⟩,rfl,rfl⟩
  .rw[j4 (λid a=>(mM g id a).1)];exact g2
  .rw[g5] at hw
   simp only[WN,not_or] at hw
   exact⟨ra st a hw.1,hw.2⟩
  .obtain⟨rfl,rfl⟩:=(rI f).1 k
   exact⟨rfl,rfl,rfl,rfl⟩
  .rcases W5 (sS P s) 1 with l | l
   .obtain⟨rfl,rfl⟩:=(rI f).1 (by omega);rfl
   .exact(rI f).2 (by omega)
 .simp at b
theorem UY {call:iB} (j:kQ P call) {q:Fz} {o:Oper} {e e':ES} {h:Heap} {v:V} {c:Rec} (r:dq n all e.T o=some true) (he:jg h e) (a:eB P call (my P q o) e=some (v,e',c)) :
  ∃ k,dH P n all o e.T h v k c.rd c.wr c.call/\jg k e'/\e'.T=e.T/\Calm e e' h k/\kV (je P false (my P q o)) c.rd c.wr c.call h.length k.length/\c.lo=h.length/\c.hi=k.length:=by
 rcases Am P q o with ⟨f,args,C,m,i | i⟩ | ⟨t,x,m,i⟩ | ⟨s,d,x,m,u,i⟩ | i
 rotate_left
 .rw[i] at a
  simp[eB] at a
 rotate_right
 .rw[i] at a ⊢
  simp only[eB,N1] at a
  split at a
  .rename_i g first cap A
   rw[CI] at a
   rw[SX.cx] at A
   split at a
   .rename_i v0 G D
    obtain⟨l,k,hr,p,B,w⟩:=j _ _ _ _ _ _ D he
    simp only[Wu,Wx] at a
    obtain⟨rfl,rfl,rfl⟩:=a
    exact⟨k,.call r m A l hr B w,p,rfl,⟨hr.1,λid y hw=>by
     simp only[WN,not_or] at hw
     exact⟨B id y hw.1,hw.2⟩⟩,Sm (by simp[je]),he.2,p.2⟩
   .simp at a
  .simp at a
 .rw[i] at a ⊢
  simp only[eB,M7,MW,sI,SX.cx] at a
  split at a
  .rename_i v0 eff rd b
   split at b
   .rename_i l
    simp only[Wu,Wx] at b
    obtain⟨rfl,rfl,rfl⟩:=b
    simp only[IQ,Wu,Wx] at a
    obtain⟨rfl,rfl,rfl⟩:=a
    exact⟨h,.jL r m l,he,rfl,Calm.refl _ _,⟨λ_=>⟨rfl,rfl,rfl,rfl⟩,λ_=>rfl⟩,he.2,he.2⟩
   .simp at b
  .simp at a
 .rw[i] at a ⊢
  obtain⟨ty,h1,E,F⟩:=zU u
  simp only[eB,M7,MW,sI,SX.cx] at a
  split at a
  .rename_i v0 eff rd b
   split at b
   .rename_i st z
    simp only[Wu,Wx] at b
    obtain⟨rfl,rfl,rfl⟩:=b
    simp only[IQ,Wu,Wx] at a
    obtain⟨rfl,rfl,rfl⟩:=a
    exact⟨h,.gu r m h1 E F z,he,rfl,Calm.refl _ _,⟨λ_=>⟨rfl,rfl,rfl,rfl⟩,λ_=>rfl⟩,he.2,he.2⟩
   .simp at b
  .simp at a
 .rw[i] at a ⊢
  exact TP (s:=ym P q.fr (comp P o)) r (λv eff rd b=>La (JI b)) he a
theorem UD {o:Oper} (a:qV n o=true) (b:n<=8000):∀ t,o.dst=some t->t < 8000:=by
 intro t c
 unfold qV at a
 rw[c] at a
 have:t < n:=by simpa using a
 exact W4 this b
theorem Th {c:Rec} {a b:Nat} (h1:c.lo=a) (d:c.hi=b):c=⟨c.rd,c.wr,c.call,a,b⟩:=by cases c;subst h1;subst d;rfl
theorem Hf {call:iB} (i:kQ P call) (N:n<=8000) {S:Fz} (g:Option (Nat × Bool)):∀ (l:List (Option Nat × SB)) (os:List Oper) (e e':ES) (h:Heap) (a u:List Rec),
  dA P n all S os=some (l.map λ(d,b)=>⟨d,g,b⟩)->(∀ d w,g=some (d,w)->e.T d=.val (.bool w)/\(l.all λx=>x.1 != some d)=true)->jg h e->J9 P call l a e=some (e',u) ->
  ∃ f z,u=a ++ f/\Tr P n all os e.T h f e'.T z/\jg z e'/\Calm e e' h z/\gg P false (l.map λ(d,b)=>⟨d,g,b⟩) f
 | [],os,e,e',h,a,u,A,B,he,k=>by
  have:=lM A;subst this
  simp only[J9,Wu,Wx] at k;obtain⟨rfl,rfl⟩:=k
  exact⟨[],h,by simp,.nil,he,Calm.refl _ _,.nil⟩
 | (d,b) :: l,os,e,e',h,a,u,A,B,he,k=>by
  obtain⟨o,r,rfl,h1,U⟩:=l9 A
  obtain⟨O,j,q,s⟩:=tz h1
  simp only at j q s
  have C:dq n all e.T o=some true:=by
   cases g with
   | none=>exact BY s
   | some p =>
    obtain⟨D,w⟩:=p
    have:=(lB (T:=e.T) s).1 w (B D w rfl).1
    rw[this];simp
  simp only[J9] at k
  rw[q] at k
  split at k
  .rename_i v Q c V
   obtain⟨E,st,F,G,H,W,I,J⟩:=UY i C he V
   have m:(Q.put d v).T=e.T.put o.dst v:=by
    rw[ES.R8 (by rw[j];exact UD O N),G,j]
   obtain⟨f,K,X,R,L,y,M⟩:=Hf i N g l r (Q.put d v) e' E _ u U (λD w eq=>by
    have:=B D w eq
    simp only[XK,WC,bne_iff_ne,ne_eq] at this
    refine⟨?_,this.2.2⟩
    rw[<-this.1,m,<-j]
    cases d with
    | none=>rfl
    | some t=>simp only[Env.put];rw[Ws];intro e;subst e;exact this.2.1 rfl) (Nk F) k
   rw[m] at R
   refine⟨_,K,?_,.cons st O R,L,(Rf H).trans y,M.cons (by rw[q];exact W)⟩
   rw[X,Xp,<-Th I J];rfl
  .simp at k
theorem F6 {E:Fz} (C:n<=8000) (d:Nat) (w:Bool) (h:Heap):∀ (l:List (Option Nat × SB)) (os:List Oper) (e e':ES) (a m:List Rec),
  dA P n all E os=some (l.map λ(g,b)=>⟨g,some (d,w),b⟩)->(e.T d=.val (.bool !w)∨e.T d=.aO [])->(l.all λx=>x.1 != some d)=true->jg h e->wJ l a e=(e',m) ->
  ∃ c,m=a ++ c/\Tr P n all os e.T h c e'.T h/\jg h e'/\e'.w=e.w/\gg P false (l.map λ(g,b)=>⟨g,some (d,w),b⟩) c
 | [],os,e,e',a,m,u,j,s,he,p=>by
  have:=lM u;subst this
  simp only[wJ,Wx] at p;obtain⟨rfl,rfl⟩:=p
  exact⟨[],by simp,.nil,he,rfl,.nil⟩
 | (g,b) :: l,os,e,e',a,m,u,j,s,he,p=>by
  obtain⟨o,r,rfl,h1,F⟩:=l9 u
  obtain⟨q,f,v,k⟩:=tz h1
  simp only at f v k
  have y:dq n all e.T o=some false:=by
   rcases j with j | j
   .rw[(lB (T:=e.T) k).1 _ j];cases w <;> rfl
   .exact(lB (T:=e.T) k).2 j
  simp only[XK,WC,bne_iff_ne,ne_eq] at s
  have i:(e.put g (.aO [])).T=e.T.put o.dst (.aO []):=by
   rw[ES.R8 (by rw[f];exact UD q C),f]
  simp only[wJ] at p
  obtain⟨c,G,D,z,A,B⟩:=F6 C d w h l r (e.put g (.aO [])) e' _ m F (by
   have:(e.put g (.aO [])).T d=e.T d:=by
    rw[i,<-f]
    cases g with
    | none=>rfl
    | some t=>simp only[Env.put];rw[Ws];intro e;subst e;exact s.1 rfl
   rw[this];exact j) s.2 (Nk he) p
  rw[i] at D
  refine⟨_,?_,Tr.cons (.skip y) q D,z,by rw[A,R6],B.cons (r:=⟨[],[],false,h.length,h.length⟩) ⟨λ_=>⟨rfl,rfl,rfl,rfl⟩,λ_=>rfl⟩⟩
  rw[G,Xp,Se,he.2];rfl
theorem D8 {j:Fz} (k:n<=8000) {d:Nat} {w:Bool} {h:Heap} {l:List (Option Nat × SB)} {os:List Oper} {e e':ES} {a f:List Rec}
  (m:dA P n all j os=some (l.map λ(g,b)=>⟨g,some (d,w),b⟩)) (o:e.T d=.val (.bool !w)∨e.T d=.aO []) (p:(l.all λx=>x.1 != some d)=true) (he:jg h e) (q:wJ l a e=(e',f)) :
  ∃ c i,f=a ++ c/\Tr P n all os e.T h c e'.T i/\jg i e'/\Calm e e' h i/\gg P false (l.map λ(g,b)=>⟨g,some (d,w),b⟩) c:=by
 obtain⟨c,h1,r,s,t,u⟩:=F6 k d w h l os e e' a f m o p he q
 exact⟨c,h,h1,r,s,⟨Wz _,λid _ hw=>⟨rfl,by rw[t] at hw;exact hw⟩⟩,u⟩
theorem Va {call:iB} (i:kQ P call) (m:n<=8000) {s:Fz} {g:SG} {os:List Oper} {e e':ES} {h:Heap} {a o:List Rec} (k:dA P n all s os=some g.flat) (c:td g=true) (he:jg h e) (f:eG P call g a e=some (e',o)) :
  ∃ j q,o=a ++ j/\Tr P n all os e.T h j e'.T q/\jg q e'/\Calm e e' h q/\gg P false g.flat j:=by
 unfold eG at f
 unfold SG.flat at k ⊢
 unfold td at c
 split at f
 .rename_i r
  rw[r] at k ⊢
  exact Hf i m none g.ops os e e' h a o k (λd w e=>by simp at e) he f
 .rename_i d want r
  rw[r] at k c ⊢
  simp only at c
  unfold Nx at f
  split at f
  .rename_i b p
   split at f
   .rename_i l
    simp only[Wu] at f
    have e':b = !want:=by cases b <;> cases want <;> simp_all
    subst e'
    exact D8 m k (.inl p) c he f
   .rename_i l
    have e':b=want:=by cases b <;> cases want <;> simp_all
    subst e'
    exact Hf i m (some (d,b)) g.ops os e _ h a o k (λt w e=>by simp at e;obtain⟨rfl,rfl⟩:=e;exact⟨p,c⟩) he f
  .rename_i p
   simp only[Wu] at f
   exact D8 m k (.inr p) c he f
  .simp at f
theorem Np {call:iB} (b:kQ P call) (z:n<=8000) {A:Fz} : ∀ (gs:List SG) (os:List Oper) (e e':ES) (h:Heap) (a i:List Rec),dA P n all A os=some (kM gs)->gs.all td=true->jg h e->P9 P call gs a e=some (e',i) ->
  ∃ c k,i=a ++ c/\Tr P n all os e.T h c e'.T k/\jg k e'/\Calm e e' h k/\gg P false (kM gs) c
 | [],os,e,e',h,a,i,j,_,he,d=>by
  have:=lM j;subst this
  simp only[P9,Wu,Wx] at d;obtain⟨rfl,rfl⟩:=d
  exact⟨[],h,by simp,.nil,he,Calm.refl _ _,.nil⟩
 | g :: gs,os,e,e',h,a,i,j,f,he,d=>by
  simp only[kM,WZ,List.flatten_cons] at j ⊢
  simp only[XK,WC] at f
  obtain⟨F,B,rfl,h1,C⟩:=qJ j
  simp only[P9] at d
  split at d
  .rename_i D E l
   obtain⟨G,m,o,p,q,r,s⟩:=Va b z h1 f.1 he l
   obtain⟨H,t,u,v,w,x,y⟩:=Np b z gs B D e' m E i C f.2 q d
   exact⟨_,t,by rw[u,o,Xp],p.append v,w,r.trans x,s.append y⟩
  .simp at d
theorem PG {ls:List Nat} {i k x y:Nat} (a:i < k) (b:ls[i]?=some x) (c:ls[k]?=some y) (d:ordered (fM all []) i k=false) (h:¬ (x=0∨y=0∨(x<=1/\y<=1))):(i,k)∈CM all ls:=by
 unfold CM
 simp only[List.mem_flatten,WQ]
 refine⟨_,⟨(x,i),by rw[Xv];exact b,rfl⟩,?_⟩
 simp only[WQ,XF]
 refine⟨(y,k),⟨by rw[Xv];exact c,?_⟩,rfl⟩
 simp only[a,decide_true,d,YA,Xj,Yt,Bool.or_eq_false_iff,beq_eq_false_iff_ne,Yj,XC]
 omega
theorem RW {ls:List Nat} {d:List Rec} (h:NO d (CM all ls)=true) (v:ls.length=d.length) (hr:∀ (i x:Nat) (r:Rec),ls[i]?=some x->d[i]?=some r->kV x r.rd r.wr r.call r.lo r.hi):tN all d:=by
 intro i k a b l m n t
 have hi:i < d.length:=(Wy.1 m).1
 have hk:k < d.length:=(Wy.1 n).1
 have j:ls[i]?=some (ls[i]'(by omega)):=Wp (by omega)
 have o:ls[k]?=some (ls[k]'(by omega)):=Wp (by omega)
 generalize ls[i]'(by omega)=x at j
 generalize ls[k]'(by omega)=y at o
 have q:=hr i _ a j m
 have s:=hr k _ b o n
 by_cases f:x=0∨y=0∨(x<=1/\y<=1)
 .rcases f with h1 | h1 | h1
  .obtain⟨g,e,p,u⟩:=q.1 h1
   exact⟨λid c=>by simp[e] at c,λid _=>by simp[g],λf=>by simp[p] at f,λ_=>e,λid _ j=>by omega⟩
  .obtain⟨g,e,p,u⟩:=s.1 h1
   exact⟨λid _=>by simp[g],λid c=>by simp[e] at c,λ_=>e,λf=>by simp[p] at f,λid c=>by simp[e] at c⟩
  .have g:=q.2 h1.1
   have e:=s.2 h1.2
   exact⟨λid c=>by simp[g] at c,λid c=>by simp[e] at c,λ_=>e,λ_=>g,λid c=>by simp[e] at c⟩
 .have:=WU.1 h _ (PG l j o t f)
  simp only[m,n] at this
  exact Pr this
theorem Tf (hm:P.follows .mixedOrders=true) {call:iB} (g:kQ P call) (D:n<=8000) {y:List Nat} {id:Nat} {ops:Array Oper} {draw:Bool} {z:DC} {run:xu} {e e':ES} {r:Exit} {h:Heap}
  (c:IZ P n y ops.toList draw=some z) (he:jg h e) (a:mw P call run z e=some (r,e')) :
  ∃ f,cL P n (.region id ops draw) e.T h r e'.T f/\jg f e'/\Calm e e' h f:=by
 unfold IZ at c
 split at c
 .simp at c
 .rename_i l E
  split at c
  .simp at c
  .rename_i j
   have j:(group l).all td=true:=by simpa using j
   have p:dA P n ops.toList ⟨y,false⟩ ops.toList=some (kM (group l)):=by rw[gF];exact E
   have key:∀ q,mw P call run (.region q (group l)) e=some (r,e')->(draw=true->lZ ops.toList=true/\q=CM ops.toList (l.map λs=>je P false s.b)) ->
     ∃ f,cL P n (.region id ops draw) e.T h r e'.T f/\jg f e'/\Calm e e' h f:=by
    intro q a t
    simp only[mw,Ln] at a
    split at a
    .rename_i F d u
     split at a
     .rename_i m
      simp only[Wu,Wx] at a
      obtain⟨rfl,rfl⟩:=a
      obtain⟨A,f,B,C,hk,v,k⟩:=Np g D (group l) ops.toList e F h [] d p j he u
      simp only[Xt] at B
      subst B
      rw[gF] at k
      refine⟨f,?_,hk,v⟩
      cases o:draw with
      | false=>simpa using Ii (id:=id) C
      | true =>
       obtain⟨h1,rfl⟩:=t o
       have w:tN ops.toList d:=RW m (by simpa using k.1) (λi x r a hr=>by
        simp only[Ww,WB] at a
        obtain⟨s,G,rfl⟩:=a
        exact k.2 i s r G hr)
       simpa using y4 hm (id:=id) C h1 w
     .simp at a
    .simp at a
   split at c
   .rename_i o
    split at c
    .rename_i H
     simp at c;subst c
     exact key _ a (λ_=>⟨H,rfl⟩)
    .simp at c
   .rename_i o
    simp at c;subst c
    exact key _ a (λe=>absurd e o)
theorem QJ (hm:P.follows .mixedOrders=true) {call:iB} (q:kQ P call) {run:xu} (f:vt P run):vt P (mw P call run):=by
 intro n p c I k o e e' r h g he
 cases c with
 | skip =>
  simp[js] at k;subst k
  simp only[mw,Px,Wu,Wx] at g
  obtain⟨rfl,rfl⟩:=g
  exact⟨h,.skip,he,Calm.refl _ _,λ_ h=>by simp at h⟩
 | region id ops draw =>
  obtain⟨G,a,b,d⟩:=Tf (id:=id) hm q o k he g
  exact⟨G,a,b,d,λ_ h=>by simp at h⟩
 | seq x y =>
  simp only[js] at k
  split at k
  .rename_i a b h1 B
   simp at k;subst k
   simp only[mw,TT] at g
   split at g
   .rename_i s m
    obtain⟨i,l,j,c1,w⟩:=f n p x a h1 o e s .normal h m he
    obtain⟨t,E,u,c2,F⟩:=f n p y b B o s e' r i g j
    exact⟨t,l.seq E,u,c1.trans c2,λ_ h=>by simp at h⟩
   .rename_i v
    obtain⟨i,l,j,c1,w⟩:=f n p x a h1 o e e' r h g he
    refine⟨i,l.Kr (λe=>?_),j,c1,λ_ h=>by simp at h⟩
    subst e
    exact absurd g (v e')
  .simp at k
 | cond J x y =>
  simp only[js] at k
  split at k
  .rename_i a b h1 B
   simp at k;subst k
   simp only[mw,Sk,SX.cx] at g
   split at g
   .rename_i C
    obtain⟨i,l,j,c1,w⟩:=f n p x a h1 o e e' r h g he
    exact⟨i,.cond C l,j,c1,λ_ h=>by simp at h⟩
   .rename_i C
    obtain⟨i,l,j,c1,w⟩:=f n p y b B o e e' r h g he
    exact⟨i,.cond C l,j,c1,λ_ h=>by simp at h⟩
   .simp at g
  .simp at k
 | block id c =>
  simp only[js,WB] at k
  obtain⟨a,h1,rfl⟩:=k
  simp only[mw,NH] at g
  split at g
  .rename_i H s m
   simp only[Wu,Wx] at g
   obtain⟨rfl,rfl⟩:=g
   obtain⟨i,l,j,c1,w⟩:=f n p c a h1 o e s H h m he
   exact⟨i,l.block,j,c1,λ_ h=>by simp at h⟩
  .simp at g
 | loop c =>
  have D:=k
  simp only[js,WB] at k
  obtain⟨a,h1,rfl⟩:=k
  simp only[mw,Sd] at g
  split at g
  .rename_i s m
   obtain⟨i,l,j,c1,w⟩:=f n p c a h1 o e s .normal h m he
   obtain⟨t,E,u,c2,F⟩:=f n p (.loop c) (.loop a) D o s e' r i g j
   have z:=pH.step l (F c rfl)
   exact⟨t,.loop z,u,c1.trans c2,λc0 A=>by simp only[Code.loop.injEq] at A;subst A;exact z⟩
  .rename_i v
   obtain⟨i,l,j,c1,w⟩:=f n p c a h1 o e e' r h g he
   have z:=pH.out l (λe=>by subst e;exact absurd g (v e'))
   exact⟨i,.loop z,j,c1,λc0 A=>by simp only[Code.loop.injEq] at A;subst A;exact z⟩
 | exit id =>
  simp[js] at k;subst k
  simp only[mw,Wu,Wx] at g
  obtain⟨rfl,rfl⟩:=g
  exact⟨h,.exit,he,Calm.refl _ _,λ_ h=>by simp at h⟩
 | ret =>
  simp[js] at k;subst k
  simp only[mw,Wu,Wx] at g
  obtain⟨rfl,rfl⟩:=g
  exact⟨h,.ret,he,Calm.refl _ _,λ_ h=>by simp at h⟩
 | _=>simp[js] at k
theorem Fo:∀ (vs:List V) (i:Nat) (t:cm V),i+vs.length<=8000->∀ k,(mX vs i t).get .any k=if i<=k/\k < i+vs.length then vs.getD (k - i) .any else t.get .any k
 | [],i,t,h,k=>by
  rw[mX,Ws (by simp only[WW];omega)]
 | v :: vs,i,t,h,k=>by
  simp only[WD] at h
  rw[mX,Fo vs (i+1) _ (by omega),cm.nq _ _ _ _ _ _ (by simp only[deep];omega)]
  simp only[WD]
  by_cases h1:k=i
  .subst h1;rw[Ws (by omega),Wv rfl,Wv (by omega)];simp
  .by_cases a:i+1<=k/\k < i+1+vs.length
   .rw[Wv a,Wv (by omega)]
    have:k - i=(k - (i+1))+1:=by omega
    rw[this];rfl
   .rw[Ws a,Ws h1,Ws (by omega)]
theorem Jh (vs:List V) (h:vs.length<=8000):(mX vs 0 .nil).get .any=lO vs:=by
 funext k
 rw[Fo vs 0 .nil (by omega)]
 simp only[lO,XT,true_and,Xk,Nat.sub_zero]
 split
 .rfl
 .rename_i hk
  rw[Wo,Xa (by omega)];rfl
theorem SS {e:ES} {h:Heap} {r:ResultVar} {rest:List ResultVar} {l:List SR} (he:jg h e) (c:fR P (r :: rest)=some l):∃ s l',l=s :: l'/\fR P rest=some l'/\∀ v,RN s e=some v->se P e.T h r=some v:=by
 cases r with
 | tmp t =>
  simp only[fR,WB] at c
  obtain⟨l',h1,rfl⟩:=c
  exact⟨.tmp t,l',rfl,h1,λv b=>b⟩
 | cell a t =>
  simp only[fR] at c
  split at c
  .rename_i k l' h1 g
   simp at c;subst c
   refine⟨.cell a k,l',rfl,g,λv b=>?_⟩
   simp only[RN] at b
   simp only[se,mC,wv h1]
   rw[he.1] at b
   split at b
   .rename_i id i j d
    split at b
    .rename_i es hH
     split at b
     .rename_i f
      rw[d];simp only[hH];rw[Wv f,b];rfl
     .simp at b
    .simp at b
   .rename_i e j d
    rw[d];simp only;rw[b];rfl
   .simp at b
  .simp at c
theorem Ir {e:ES} {h:Heap} (he:jg h e):∀ (rs:List ResultVar) (l:List SR) (vs:List V),fR P rs=some l->v7 l e=some vs->ma P e.T h rs=some vs
 | [],l,vs,a,hw=>by simp[fR] at a;subst a;simp[v7] at hw;subst hw;rfl
 | r :: rest,l,vs,a,hw=>by
  obtain⟨s,l',rfl,h1,d⟩:=SS (e:=e) (h:=h) he a
  simp only[v7] at hw
  split at hw
  .rename_i v b f c
   simp at hw;subst hw
   simp[ma,d v f,Ir he rest l' b h1 c]
  .simp at hw
def pN (P:Program) (tab:List (FuncId × DF)):Prop:=∀ p∈tab,∃ fz,Ge P p.1 fz=some p.2
def sn (P:Program) (ext:xF):Prop:=∀ g vs H t,ext g vs H=some t->dw P g=true/\∀ h:Heap,h.view=H->bC P g vs h t h
theorem G0 {tab:List (FuncId × DF)} {ext:xF} (M:pN P tab) (y:sn P ext) {run:xu} (q:vt P run):kQ P (F2 P tab ext run):=by
 intro g vs e v e' h b he
 unfold F2 at b
 split at b
 .rename_i t s
  simp only[Wu,Wx] at b
  obtain⟨rfl,rfl⟩:=b
  obtain⟨h1,B⟩:=y _ _ _ _ s
  exact⟨h1,h,B h he.1.symm,he,λ_ _ _=>rfl,λ_ hw=>by simp at hw⟩
 .split at b
  .rename_i z F J
   have u:=List.mem_of_find?_eq_some J
   have C:z=g:=by
    have:=List.find?_some J
    exact Ym this
   subst C
   obtain⟨N,k⟩:=M _ u
   simp only at k
   unfold Ge at k
   split at k
   .rename_i fn D
    split at k
    .rename_i c O
     split at k
     .rename_i K rs h1 B Q
      simp at k;subst k
      refine⟨Q,?_⟩
      unfold Ue at b
      split at b
      .rename_i hlen A
       have hlen:=Nat.le_of_ble_eq_true hlen
       have A:=Nat.le_of_ble_eq_true A
       simp only at hlen A
       unfold UF at b
       split at b
       .rename_i v1 d f
        simp only[Wu,Wx] at b
        obtain⟨rfl,rfl⟩:=b
        unfold UI at f
        have go:∀ (r:Exit) (p:ES),(r=.ret∨r=.normal)->run K ⟨mX vs 0 .nil,e.H,e.n,[]⟩=some (r,p)->(v7 rs p).map (λvs=>(vP vs,p))=some (v1,d) ->
          ∃ i,bC P z vs h v1 i/\jg i d/\(∀ id,id < h.length->¬ id∈d.w->i.view id=h.view id):=by
         intro r p hr j o
         simp only[WB,Wx] at o
         obtain⟨E,G,rfl,rfl⟩:=o
         obtain⟨i,y,x,I,_⟩:=q fn.ntmps N c K h1 A _ p r h j he
         have R:(ES.T ⟨mX vs 0 .nil,e.H,e.n,[]⟩)=lO vs:=Jh vs (by omega)
         rw[R] at y
         refine⟨i,bC.KC D O hlen y (by rcases hr with rfl | rfl <;> simp) ?_,x,λid m hw=>(I.2 id m hw).1⟩
         unfold LI
         rw[Ir x _ _ _ B G]
         cases E with
         | nil=>rfl
         | cons a l=>cases l <;> rfl
        have done:(∃ i,bC P z vs h v1 i/\jg i d/\(∀ id,id < h.length->¬ id∈d.w->i.view id=h.view id)) ->
          ∃ i,bC P z vs h v1 i/\jg i ⟨d.L,d.H,d.n,d.w.filter λid=>Nat.blt id e.n⟩/\(∀ id,id < h.length->¬ id∈d.w.filter (λid=>Nat.blt id e.n)->i.view id=h.view id)/\∀ id,id∈d.w.filter (λid=>Nat.blt id e.n)->id < h.length:=by
         rintro⟨i,S,k2,U⟩
         refine⟨i,S,k2,λid m hw=>U id m (λhm=>hw ?_),λid hw=>?_⟩
         .rw[XF]
          exact⟨hm,by rw[he.2];exact Nat.ble_eq_true_of_le m⟩
         .rw[XF] at hw
          have:=Nat.le_of_ble_eq_true hw.2
          rw[he.2] at this;exact this
        split at f
        .rename_i p j;exact done (go _ _ (.inl rfl) j f)
        .rename_i p j;exact done (go _ _ (.inr rfl) j f)
        .simp at f
       .simp at b
      .simp at b
     .simp at k
    .simp at k
   .simp at k
  .simp at b
theorem Le (hm:P.follows .mixedOrders=true) {tab:List (FuncId × DF)} {ext:xF} (a:pN P tab) (b:sn P ext):∀ k,vt P (HT P tab ext k)
 | 0=>λn f c g i j e e' r h hr he=>by simp[HT] at hr
 | k+1=>by
  have d:=Le hm a b k
  have:=QJ hm (G0 a b d) d
  exact this
end
end Gv

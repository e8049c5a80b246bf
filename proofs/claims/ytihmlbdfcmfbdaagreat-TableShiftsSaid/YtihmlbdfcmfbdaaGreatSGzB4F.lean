/-
  Part 6 of the proof: what the machine does and what the functions answer.
  Conditions: those that each lemma names.
-/
import Derived.Test.YtihmlbdfcmfbdaaGreatSGzB4E
set_option linter.unusedSimpArgs false
set_option linter.unusedVariables false
set_option maxRecDepth 100000
set_option maxHeartbeats 20000000
namespace Gv
open Go Go.Proofs
structure Term where
 name:ByteArray
 level:Int
 assoc:Int
structure aW where
 left:Int
 right:List Int
 prec:Int
structure ag where
 af:List Term
 ak:List ByteArray
 rules:List aW
 start:Int
instance:Inhabited Term:=⟨⟨.empty,0,0⟩⟩
instance:Inhabited aW:=⟨⟨0,[],0⟩⟩
def bW (t:Term):List V:=[gs t.name,gi t.level,gi t.assoc]
def aP (r:aW):List V:=[gi r.left,encI r.right,gi r.prec]
def encS (l:List ByteArray):V:=.aE (l.map fun s=>[gs s])
def ai (g:ag):List V:=[.aE (g.af.map bW),encS g.ak,.aE (g.rules.map aP),gi g.start]
theorem eN {α:Type} (l:List α) (f:α→List V) (h:∀ x∈l,∀ v∈f x,Tree v):Tree (.aE (l.map f)):=by
 refine .aE _ fun i j hi a=>?_
 simp only[Xj] at hi
 have e:(l.map f).getD i []=f l[i]:=by simp[Xb,hi]
 rw[e] at a ⊢
 have b:(f l[i]).getD j .any=(f l[i])[j]:=by simp[Xb,a]
 rw[b]
 exact h _ (Xm _) _ (Xm _)
theorem cq (cs:List V) (h:∀ v∈cs,Tree v):Tree (.agg cs):=by
 refine .agg _ fun i hi=>?_
 have a:cs.getD i .any=cs[i]:=by simp[Xb,hi]
 rw[a]; exact h _ (Xm _)
theorem ze (l:List ByteArray):Tree (encS l):=eN _ _ fun x _ v a=>by simp at a; subst a; exact .val _
theorem uC (t:Term):∀ v∈bW t,Tree v:=by intro v a; simp[bW] at a; rcases a with rfl | rfl | rfl <;> exact .val _
theorem ia (r:aW):∀ v∈aP r,Tree v:=by
 intro v a; simp[aP] at a; rcases a with rfl | rfl | rfl
 ·exact .val _
 ·exact gp _
 ·exact .val _
theorem dE (g:ag):∀ v∈ai g,Tree v:=by
 intro v a; simp[ai] at a; rcases a with rfl | rfl | rfl | rfl
 ·exact eN _ _ fun x _=>uC x
 ·exact ze _
 ·exact eN _ _ fun x _=>ia x
 ·exact .val _
def cy (x:Int):Prop:=-9223372036854775808≤x∧x≤9223372036854775807
structure ag.Ok (g:ag):Prop where
 af:aL g.af
 ak:aL g.ak
 rules:aL g.rules
 start:cy g.start
 term:∀ t∈g.af,cy t.level∧cy t.assoc
 ax:∀ r∈g.rules,cy r.left∧cy r.prec∧aL r.right∧∀ x∈r.right,cy x
def gu (g:ag) (s:Int):Bool:=if 0≤s then decide (s < g.af.length) else decide (-1 - s < g.ak.length)
def r8:SF:=⟨ae [ab [cI 2 0,bu 4 false],ae [ab [aa 5 1,aH 6 .geq 5 0],bf 6 (ae [ab [aa 7 1,ao 8 0 2,aj 9 8,aN 10 9,aV 11 .lss 7 10,aa 4 11],.ret])],ab [aa 12 1,((some 13),.op (.arith .sub (.val (.val (.int .i64 (-1)))) (.tmp 12))),ao 14 1 2,aj 15 14,aN 16 15,aV 17 .lss 13 16,aa 4 17],.ret],
 [.tmp 4],18⟩
theorem xf:aR Tryz.prog 155 [2]=some r8:=by kernel_rfl
theorem UI (g:ag) (s:Int) (hs:cy s) (H:View):aw Tryz.prog 155 [.agg (ai g),gi s] H fun r H'=>r=gb (gu g s)∧H'=H:=by
 refine aw.of mixed xf ?_
 obtain ⟨h1,a⟩:=hs
 simp (disch:=omega)only[↓wr,seval,wq,r8,ai,encS]
 apply ah.dec<;>intro h
 ·simp (disch:=omega)only[↓wr,seval,wq]
  simp[gu,show (0:Int)≤s from h]
 ·simp (disch:=omega)only[↓wr,seval,wq]
  simp[gu,show ¬ (0:Int)≤s from h]
theorem Vl (g:ag) (s:Int) (hs:cy s):aA Tryz.prog 155 [.agg (ai g),gi s] (gb (gu g s)) :=
 aA.of (by
  intro v a; simp at a
  rcases a with rfl | rfl
  ·exact cq _ (dE g)
  ·exact .val _) ((UI g s hs _).mono fun r H' h b _=>by rw[h.1]; exact .tree _ (.val _))
def oX (g:ag):Bool:=decide (40 < g.af.length) || decide (40 < g.ak.length) || decide (60 < g.rules.length) || g.rules.any fun r=>decide (20 < r.right.length)
def nU:SC :=
 ae [ae [ab [aa 20 3,ao 21 2 1,aj 22 21,aN 23 22,aV 24 .lss 20 23],bY 24 (.exit 0)],.block 1 (ae [ab [ao 27 2 1,aj 28 27,aa 29 3,aQ 30 3 28 29,ao 31 1 30,aj 32 31,aN 33 32,aH 34 .gtr 33 20],bf 34 (ae [ab [bu 2 true],.ret])]),ab [aa 25 3,aH 26 .add 25 1,aa 3 26]]
def pP:SF:=⟨ae [ab [cI 1 0,bu 2 false],ae [.region false [⟨none,[ao 4 0 1,aj 5 4,aN 6 5,aH 7 .gtr 6 40,aa 8 7]⟩,⟨(some (8,false)),[ao 9 1 1,aj 10 9,aN 11 10,aH 12 .gtr 11 40]⟩,⟨none,[cz 13 8 12,aa 14 13]⟩,⟨(some (14,false)),[ao 15 2 1,aj 16 15,aN 17 16,aH 18 .gtr 17 60]⟩,⟨none,[cz 19 14 18]⟩],bf 19 (ae [ab [bu 2 true],.ret])],ae [ab [aS 3 0],b6 0 nU],ab [bu 2 false],.ret],
 [.tmp 2],35⟩
theorem uY:aR Tryz.prog 16 [1]=some pP:=by kernel_rfl
theorem Rz (g:ag) (H:View):aw Tryz.prog 16 [.agg (ai g)] H fun r H'=>r=gb (oX g)∧H'=H:=by
 refine aw.of mixed uY ?_
 simp (disch:=omega)only[↓wr,seval,wq,pP,ai,encS]
 apply ah.dec<;>intro h1
 ·simp (disch:=omega)only[↓wr,seval,wq]
  simp[oX,show 40 < g.af.length by omega]
 ·simp (disch:=omega)only[↓wr,seval,wq]
  apply ah.dec<;>intro d
  ·simp (disch:=omega)only[↓wr,seval,wq]
   simp[oX,show 40 < g.ak.length by omega]
  ·simp (disch:=omega)only[↓wr,seval,wq]
   apply ah.dec<;>intro f
   ·simp (disch:=omega)only[↓wr,seval,wq]
    simp[oX,show 60 < g.rules.length by omega]
   ·simp (disch:=omega)only[↓wr,seval,wq]
    refine aU.intro (fun k T H'=>∃ i:Nat,i+k=g.rules.length∧(∀ r∈g.rules.take i,¬ 20 < r.right.length)∧T 1=.aJ (ai g) 0∧T 3=gi i∧H'=H) g.rules.length ?_ ?_
    ·exact ⟨0,by omega,by simp,rfl,rfl,rfl⟩
    ·rintro k T H' ⟨i,hk,hi,a,b,rfl⟩
     simp (disch:=omega)only[↓wr,seval,wq,nU,a,b,ai]
     apply ah.dec<;>intro h
     ·have c:g.rules[i]?=some (g.rules[i]'(by omega)):=Xc (by omega)
      simp (disch:=omega)only[↓wr,seval,wq,a,b,ai,aP,encI,Xf,c,Xk]
      apply ah.dec<;>intro hd
      ·simp (disch:=omega)only[↓wr,seval,wq]
       have:g.rules.any (fun r=>decide (20 < r.right.length))=true:=by
        simp only[List.any_eq_true,Xr]
        exact ⟨g.rules[i]'(by omega),Xm _,by omega⟩
       simp[oX,this]
      ·simp (disch:=omega)only[↓wr,seval,wq,a,b]
       refine ⟨k - 1,by omega,i+1,by omega,?_,rfl,rfl⟩
       intro r hr
       rw[XH,c] at hr
       simp only[Option.toList_some,XE,X8] at hr
       rcases hr with hr | rfl
       ·exact hi r hr
       ·omega
     ·simp (disch:=omega)only[↓wr,seval,wq,a,b]
      have e:i=g.rules.length:=by omega
      rw[Xv (by omega)] at hi
      have:g.rules.any (fun r=>decide (20 < r.right.length))=false:=by
       simp only[List.any_eq_false,Xr]; exact hi
      simp only[oX,this]
      simp; omega
def cE (l:List Int) (is:List Bool) (af:Bool):Bool:=l.all fun s=>if 0≤s then af else is.getD (-1 - s).toNat false
def pK:SC :=
 ae [ae [ab [aa 8 7,aa 9 0,aN 10 9,aV 11 .lss 8 10],bY 11 (.exit 0)],.block 1 (ae [.region false [⟨none,[aa 14 0,aa 15 7,aQ 16 1 14 15,aj 17 16,aH 18 .geq 17 0,aa 19 18]⟩,⟨(some (19,true)),[aa 20 2,de 21 20]⟩,⟨none,[eJ 22 19 21,aa 23 22]⟩,⟨(some (23,false)),[aa 24 0,aa 25 7,aQ 26 1 24 25,aj 27 26,aH 28 .lss 27 0,aa 29 28]⟩,⟨(some (29,true)),[aa 30 1,aa 31 0,aa 32 7,aQ 33 1 31 32,aj 34 33,((some 35),.op (.arith .sub (.val (.val (.int .i64 (-1)))) (.tmp 34))),aQ 36 1 30 35,aj 37 36,de 38 37]⟩,⟨(some (23,false)),[eJ 39 29 38]⟩,⟨none,[cz 40 23 39]⟩],bf 40 (ae [ab [bu 6 false],.ret])]),ab [aa 12 7,aH 13 .add 12 1,aa 7 13]]
def se:SF:=⟨ae [ab [bu 6 false],ae [ab [aS 7 0],b6 0 pK],ab [bu 6 true],.ret],
 [.tmp 6],41⟩
theorem xF:aR Tryz.prog 117 []=some se:=by kernel_rfl
theorem Vf (l:List Int) (is:List Bool) (t:Bool) (hl:aL l) (hs:∀ s∈l,cy s∧(s < 0→-1 - s < is.length)) (H:View) :
  aw Tryz.prog 117 [encI l,bO is,gb t] H fun r H'=>r=gb (cE l is t)∧H'=H:=by
 refine aw.of mixed xF ?_
 unfold aL at hl
 simp (disch:=omega)only[↓wr,seval,wq,se]
 refine aU.intro (fun k T H'=>∃ i:Nat,i+k=l.length∧cE (l.take i) is t=true∧T 0=encI l∧T 1=bO is∧T 2=gb t∧T 7=gi i∧H'=H) l.length ?_ ?_
 ·exact ⟨0,by omega,by simp[cE],rfl,rfl,rfl,rfl,rfl⟩
 ·rintro k T H' ⟨i,hk,hi,d,h1,f,g,rfl⟩
  simp (disch:=omega)only[↓wr,seval,wq,pK,d,h1,f,g,encI]
  apply ah.dec<;>intro o
  ·have h:l[i]?=some (l[i]'(by omega)):=Xc (by omega)
   have hm:l[i]'(by omega)∈l:=Xm _
   generalize l[i]'(by omega)=s at h hm
   obtain ⟨⟨p,q⟩,u⟩:=hs s hm
   have a:cE (l.take (i+1)) is t=(if 0≤s then t else is.getD (-1 - s).toNat false):=by
    rw[XH,h]
    simp only[cE,Option.toList_some,List.all_append,Yv,List.all_nil,Bool.and_true] at hi ⊢
    rw[hi,Ys]
   have c:(if 0≤s then t else is.getD (-1 - s).toNat false)=false→cE l is t=false:=by
    intro j
    simp only[cE,List.all_eq_false]
    exact ⟨s,hm,by simpa using j⟩
   simp (disch:=omega)only[↓wr,seval,wq,d,h1,f,g,encI,Xf,h,Xk]
   apply ah.dec<;>intro hd
   ·rw[Xg (show 0≤s from hd)] at a c
    cases t with
    | true =>
     simp (disch:=omega)only[↓wr,seval,wq,d,h1,f,g,encI,Xf,h,Xk]
     refine ah.dec (fun m=>absurd m (by omega)) (fun _=>?_)
     simp (disch:=omega)only[↓wr,seval,wq,d,h1,f,g,encI,bO,Xf,h,Xk]
     exact ⟨k - 1,by omega,i+1,by omega,a,rfl⟩
    | false =>
     simp (disch:=omega)only[↓wr,seval,wq,d,h1,f,g,encI,Xf,h,Xk]
     rw[c rfl]
   ·rw[Xd (show ¬ 0≤s from hd)] at a c
    simp (disch:=omega)only[↓wr,seval,wq,d,h1,f,g,encI,Xf,h,Xk]
    refine ah.dec (fun m=>?_) (fun m=>absurd m (by omega))
    have j:is[(-1 - s).toNat]?=some (is[(-1 - s).toNat]'(by omega)):=Xc (by omega)
    have n:is.getD (-1 - s).toNat false=is[(-1 - s).toNat]'(by omega):=by simp[Xb,j]
    rw[n] at a c
    generalize is[(-1 - s).toNat]'(by omega)=b at j a c
    simp (disch:=omega)only[↓wr,seval,wq,d,h1,f,g,encI,bO,Xf,h,j,Xk]
    cases b with
    | true =>
     simp (disch:=omega)only[↓wr,seval,wq,d,h1,f,g,encI,bO,Xf,h,j,Xk]
     exact ⟨k - 1,by omega,i+1,by omega,a,rfl⟩
    | false =>
     simp (disch:=omega)only[↓wr,seval,wq,d,h1,f,g,encI,bO,Xf,h,j,Xk]
     rw[c rfl]
  ·simp (disch:=omega)only[↓wr,seval,wq,d,h1,f,g]
   have e:i=l.length:=by omega
   rw[Xv (by omega)] at hi
   rw[hi]
abbrev gy (x:Int):V:=.val (.int .u8 x)
def vD (c:Int):Bool:=(decide (97≤c) && decide (c≤122)) || (decide (65≤c) && decide (c≤90)) || c == 95
def oL (c:Int):Bool:=vD c || (decide (48≤c) && decide (c≤57)) || c == 46
def p9:SF:=⟨ae [ab [bu 2 false],.region false [⟨none,[aa 3 0,((some 4),.op (.arith .geq (.tmp 3) (.val (.val (.int .u8 97))))),aa 5 4]⟩,⟨(some (5,true)),[aa 6 0,((some 7),.op (.arith .leq (.tmp 6) (.val (.val (.int .u8 122)))))]⟩,⟨none,[eJ 8 5 7,aa 9 8]⟩,⟨(some (9,false)),[aa 10 0,((some 11),.op (.arith .geq (.tmp 10) (.val (.val (.int .u8 65))))),aa 12 11]⟩,⟨(some (12,true)),[aa 13 0,((some 14),.op (.arith .leq (.tmp 13) (.val (.val (.int .u8 90)))))]⟩,⟨(some (9,false)),[eJ 15 12 14]⟩,⟨none,[cz 16 9 15,aa 17 16]⟩,⟨(some (17,false)),[aa 18 0,((some 19),.op (.arith .eql (.tmp 18) (.val (.val (.int .u8 95)))))]⟩,⟨none,[cz 20 17 19,aa 2 20]⟩],.ret],
 [.tmp 2],21⟩
theorem uT:aR Tryz.prog 193 []=some p9:=by kernel_rfl
def pX:SF:=⟨ae [ab [bu 2 false],.region false [⟨none,[aa 3 0,bz 4 193 [3],aa 5 4]⟩,⟨(some (5,false)),[aa 6 0,((some 7),.op (.arith .geq (.tmp 6) (.val (.val (.int .u8 48))))),aa 8 7]⟩,⟨(some (8,true)),[aa 9 0,((some 10),.op (.arith .leq (.tmp 9) (.val (.val (.int .u8 57)))))]⟩,⟨(some (5,false)),[eJ 11 8 10]⟩,⟨none,[cz 12 5 11,aa 13 12]⟩,⟨(some (13,false)),[aa 14 0,((some 15),.op (.arith .eql (.tmp 14) (.val (.val (.int .u8 46)))))]⟩,⟨none,[cz 16 13 15,aa 2 16]⟩],.ret],
 [.tmp 2],17⟩
theorem vc:aR Tryz.prog 194 []=some pX:=by kernel_rfl
theorem Q3 (c:Int) (H:View):aw Tryz.prog 193 [gy c] H fun r H'=>r=gb (vD c)∧H'=H:=by
 refine aw.of mixed uT ?_
 repeat' (first | (refine ah.dec (fun _=>?_) (fun _=>?_)) | (refine ah.eq (fun _=>?_) (fun _=>?_)) | (refine ah.ne (fun _=>?_) (fun _=>?_)) | (refine ah.split (fun _=>?_) (fun _=>?_)) | (simp (disch:=omega)only[↓wr,seval,wq,p9]))
 all_goals (congr 2; simp only[vD]; grind)
theorem Ij (c:Int):aA Tryz.prog 193 [gy c] (gb (vD c)) :=
 aA.of (by intro v a; simp at a; subst a; exact .val _) ((Q3 c _).mono fun r H' h b _=>by rw[h.1]; exact .tree _ (.val _))
theorem QZ (c:Int) (H:View):aw Tryz.prog 194 [gy c] H fun r H'=>r=gb (oL c)∧H'=H:=by
 refine aw.of mixed vc ?_
 repeat' (first | (refine ah.dec (fun _=>?_) (fun _=>?_)) | (refine ah.eq (fun _=>?_) (fun _=>?_)) | (refine ah.ne (fun _=>?_) (fun _=>?_)) | (refine ah.split (fun _=>?_) (fun _=>?_)) | (simp (disch:=omega)only[↓wr,seval,wq,pX]))
 refine ay.pure (Ij c) ?_
 repeat' (first | (refine ah.dec (fun _=>?_) (fun _=>?_)) | (refine ah.eq (fun _=>?_) (fun _=>?_)) | (refine ah.ne (fun _=>?_) (fun _=>?_)) | (refine ah.split (fun _=>?_) (fun _=>?_)) | (simp (disch:=omega)only[↓wr,seval,wq]))
 all_goals (congr 2; simp only[oL]; grind)
theorem Ry (c:Int):aA Tryz.prog 194 [gy c] (gb (oL c)) :=
 aA.of (by intro v a; simp at a; subst a; exact .val _) ((QZ c _).mono fun r H' h b _=>by rw[h.1]; exact .tree _ (.val _))
def gS (l:List Int):Bool:=decide (0 < l.length) && decide (l.length≤20) && (match l with | c :: _=>vD c | []=>false) && l.all oL
def oS:SC :=
 ae [ae [ab [aa 18 3,aa 19 0,((some 20),.op (.qp (.tmp 19))),aV 21 .lss 18 20],bY 21 (.exit 0)],.block 1 (ae [ab [aa 24 0,aa 25 3,((some 26),.op (.ja (.tmp 24) (.tmp 25))),bz 27 194 [26],de 28 27],bf 28 (ae [ab [bu 2 false],.ret])]),ab [aa 22 3,aH 23 .add 22 1,aa 3 23]]
def rb:SF:=⟨ae [ab [bu 2 false],ae [.region false [⟨none,[aa 4 0,((some 5),.op (.qp (.tmp 4))),aH 6 .eql 5 0,aa 7 6]⟩,⟨(some (7,false)),[aa 8 0,((some 9),.op (.qp (.tmp 8))),aH 10 .gtr 9 20]⟩,⟨none,[cz 11 7 10,aa 12 11]⟩,⟨(some (12,false)),[aa 13 0,((some 14),.op (.ja (.tmp 13) (.val (.val (.int .i64 0))))),bz 15 193 [14],de 16 15]⟩,⟨none,[cz 17 12 16]⟩],bf 17 (ae [ab [bu 2 false],.ret])],ae [ab [aS 3 0],b6 0 oS],ab [bu 2 true],.ret],
 [.tmp 2],29⟩
theorem vT:aR Tryz.prog 154 []=some rb:=by kernel_rfl
theorem QI (s:ByteArray) (H:View):aw Tryz.prog 154 [gs s] H fun r H'=>r=gb (gS (fQ s))∧H'=H:=by
 refine aw.of mixed vT ?_
 repeat' (first | (refine ah.dec (fun _=>?_) (fun _=>?_)) | (refine ah.eq (fun _=>?_) (fun _=>?_)) | (refine ah.ne (fun _=>?_) (fun _=>?_)) | (refine ah.split (fun _=>?_) (fun _=>?_)) | (simp (disch:=omega)only[↓wr,seval,wq,rb,eV]))
 ·rename_i h
  congr 2; simp[gS,show (fQ s).length=0 by omega]
 ·rename_i h
  congr 2; simp[gS,show ¬ (fQ s).length≤20 by omega]
 ·rename_i h1 g
  cases a:fQ s with
  | nil=>simp[a] at h1
  | cons c l =>
   repeat' (first | (refine ah.dec (fun _=>?_) (fun _=>?_)) | (refine ah.eq (fun _=>?_) (fun _=>?_)) | (refine ah.ne (fun _=>?_) (fun _=>?_)) | (refine ah.split (fun _=>?_) (fun _=>?_)) | (simp (disch:=omega)only[↓wr,seval,wq,a,XG,eV]))
   refine ay.pure (Ij c) ?_
   repeat' (first | (refine ah.dec (fun _=>?_) (fun _=>?_)) | (refine ah.eq (fun _=>?_) (fun _=>?_)) | (refine ah.ne (fun _=>?_) (fun _=>?_)) | (refine ah.split (fun _=>?_) (fun _=>?_)) | (simp (disch:=omega)only[↓wr,seval,wq,a,XG,eV]))
   ·rename_i j
    refine aU.intro (fun k T H'=>∃ i:Nat,i+k=(c :: l).length∧((c :: l).take i).all oL=true∧T 0=gs s∧T 3=gi i∧H'=H) (c :: l).length ?_ ?_
    ·exact ⟨0,by omega,by simp,rfl,rfl,rfl⟩
    ·rintro k T H' ⟨i,hk,hi,b,e,rfl⟩
     rw[a] at h1 g
     simp (disch:=omega)only[↓wr,seval,wq,oS,b,e,eV,a]
     apply ah.dec<;>intro m
     ·simp only[Xt] at m hk g
      have f:(c :: l)[i]?=some ((c :: l)[i]'(by simp; omega)):=Xc (by simp; omega)
      have hm:(c :: l)[i]'(by simp; omega)∈c :: l:=Xm _
      generalize (c :: l)[i]'(by simp; omega)=d at f hm
      simp (disch:=omega)only[↓wr,seval,wq,b,e,eV,a,f]
      refine ay.pure (Ry d) ?_
      repeat' (first | (refine ah.dec (fun _=>?_) (fun _=>?_)) | (refine ah.eq (fun _=>?_) (fun _=>?_)) | (refine ah.ne (fun _=>?_) (fun _=>?_)) | (refine ah.split (fun _=>?_) (fun _=>?_)) | (simp (disch:=omega)only[↓wr,seval,wq,b,e,eV,a,f]))
      ·rename_i hd
       refine ⟨k - 1,by omega,i+1,by omega,?_,rfl⟩
       rw[XH,f]
       simp only[Option.toList_some,List.all_append,hi,Yv,hd,List.all_nil,Bool.and_self]
      ·rename_i hd
       congr 2
       have:(c :: l).all oL=false:=by
        rw[List.all_eq_false]; exact ⟨d,hm,by simp[hd]⟩
       simp only[gS,this,Bool.and_false]
     ·simp (disch:=omega)only[↓wr,seval,wq,b,e]
      simp only[Xt] at m hk g
      rw[Xv (by simp; omega)] at hi
      congr 2
      simp only[gS,hi,Xt]
      simp[j]; omega
   ·rename_i j
    congr 2; simp[gS,j]
def nD:List Int→Bool
 | [a,b,c]=>a == 39 && c == 39 && decide (32≤b) && decide (b≤126) && b != 39 && b != 92
 | [a,b,c,d]=>a == 39 && d == 39 && b == 92 && (c == 110 || c == 116 || c == 92 || c == 39)
 | _=>false
theorem Q0 {l:List Int} (a:l.length≠3) (b:l.length≠4):nD l=false:=by
 match l,a,b with
 | [],_,_=>rfl
 | [_],_,_=>rfl
 | [_,_],_,_=>rfl
 | [_,_,_],a,_=>exact absurd rfl a
 | [_,_,_,_],_,b=>exact absurd rfl b
 | _ :: _ :: _ :: _ :: _ :: _,_,_=>rfl
theorem Wz {α:Type} {l:List α} (h:l.length=3):∃ a b c,l=[a,b,c]:=by
 match l,h with
 | [a,b,c],_=>exact ⟨a,b,c,rfl⟩
theorem WG {α:Type} {l:List α} (h:l.length=4):∃ a b c d,l=[a,b,c,d]:=by
 match l,h with
 | [a,b,c,d],_=>exact ⟨a,b,c,d,rfl⟩
def oA:SF:=⟨ae [ab [bu 2 false],ae [ab [aa 3 0,((some 4),.op (.qp (.tmp 3))),aH 5 .eql 4 3],bf 5 (ae [.region false [⟨none,[aa 6 0,((some 7),.op (.ja (.tmp 6) (.val (.val (.int .i64 0))))),((some 8),.op (.arith .eql (.tmp 7) (.val (.val (.int .u8 39))))),aa 9 8]⟩,⟨(some (9,true)),[aa 10 0,((some 11),.op (.ja (.tmp 10) (.val (.val (.int .i64 2))))),((some 12),.op (.arith .eql (.tmp 11) (.val (.val (.int .u8 39)))))]⟩,⟨none,[eJ 13 9 12,aa 14 13]⟩,⟨(some (14,true)),[aa 15 0,((some 16),.op (.ja (.tmp 15) (.val (.val (.int .i64 1))))),((some 17),.op (.arith .geq (.tmp 16) (.val (.val (.int .u8 32)))))]⟩,⟨none,[eJ 18 14 17,aa 19 18]⟩,⟨(some (19,true)),[aa 20 0,((some 21),.op (.ja (.tmp 20) (.val (.val (.int .i64 1))))),((some 22),.op (.arith .leq (.tmp 21) (.val (.val (.int .u8 126)))))]⟩,⟨none,[eJ 23 19 22,aa 24 23]⟩,⟨(some (24,true)),[aa 25 0,((some 26),.op (.ja (.tmp 25) (.val (.val (.int .i64 1))))),((some 27),.op (.arith .neq (.tmp 26) (.val (.val (.int .u8 39)))))]⟩,⟨none,[eJ 28 24 27,aa 29 28]⟩,⟨(some (29,true)),[aa 30 0,((some 31),.op (.ja (.tmp 30) (.val (.val (.int .i64 1))))),((some 32),.op (.arith .neq (.tmp 31) (.val (.val (.int .u8 92)))))]⟩,⟨none,[eJ 33 29 32,aa 2 33]⟩],.ret])],.region false [⟨none,[aa 34 0,((some 35),.op (.qp (.tmp 34))),aH 36 .eql 35 4,aa 37 36]⟩,⟨(some (37,true)),[aa 38 0,((some 39),.op (.ja (.tmp 38) (.val (.val (.int .i64 0))))),((some 40),.op (.arith .eql (.tmp 39) (.val (.val (.int .u8 39)))))]⟩,⟨none,[eJ 41 37 40,aa 42 41]⟩,⟨(some (42,true)),[aa 43 0,((some 44),.op (.ja (.tmp 43) (.val (.val (.int .i64 3))))),((some 45),.op (.arith .eql (.tmp 44) (.val (.val (.int .u8 39)))))]⟩,⟨none,[eJ 46 42 45,aa 47 46]⟩,⟨(some (47,true)),[aa 48 0,((some 49),.op (.ja (.tmp 48) (.val (.val (.int .i64 1))))),((some 50),.op (.arith .eql (.tmp 49) (.val (.val (.int .u8 92)))))]⟩,⟨none,[eJ 51 47 50,aa 52 51]⟩,⟨(some (52,true)),[aa 53 0,((some 54),.op (.ja (.tmp 53) (.val (.val (.int .i64 2))))),((some 55),.op (.arith .eql (.tmp 54) (.val (.val (.int .u8 110))))),aa 56 55]⟩,⟨(some (56,false)),[aa 57 0,((some 58),.op (.ja (.tmp 57) (.val (.val (.int .i64 2))))),((some 59),.op (.arith .eql (.tmp 58) (.val (.val (.int .u8 116)))))]⟩,⟨(some (52,true)),[cz 60 56 59,aa 61 60]⟩,⟨(some (61,false)),[aa 62 0,((some 63),.op (.ja (.tmp 62) (.val (.val (.int .i64 2))))),((some 64),.op (.arith .eql (.tmp 63) (.val (.val (.int .u8 92)))))]⟩,⟨(some (52,true)),[cz 65 61 64,aa 66 65]⟩,⟨(some (66,false)),[aa 67 0,((some 68),.op (.ja (.tmp 67) (.val (.val (.int .i64 2))))),((some 69),.op (.arith .eql (.tmp 68) (.val (.val (.int .u8 39)))))]⟩,⟨(some (52,true)),[cz 70 66 69]⟩,⟨none,[eJ 71 52 70,aa 2 71]⟩],.ret],
 [.tmp 2],72⟩
theorem tz:aR Tryz.prog 192 []=some oA:=by kernel_rfl
def pS:SF:=⟨ae [ab [bu 2 false],.region false [⟨none,[aa 3 0,bz 4 154 [3],aa 5 4]⟩,⟨(some (5,false)),[aa 6 0,bz 7 192 [6]]⟩,⟨none,[cz 8 5 7,aa 2 8]⟩],.ret],
 [.tmp 2],9⟩
theorem uV:aR Tryz.prog 151 []=some pS:=by kernel_rfl
theorem Rr (s:ByteArray) (H:View):aw Tryz.prog 192 [gs s] H fun r H'=>r=gb (nD (fQ s))∧H'=H:=by
 refine aw.of mixed tz ?_
 simp (disch:=omega)only[↓wr,seval,wq,oA,eV]
 apply ah.eq<;>intro h
 ·obtain ⟨a,b,c,e⟩:=Wz (l:=fQ s) (by omega)
  repeat' (first | (refine ah.dec (fun _=>?_) (fun _=>?_)) | (refine ah.eq (fun _=>?_) (fun _=>?_)) | (refine ah.ne (fun _=>?_) (fun _=>?_)) | (refine ah.split (fun _=>?_) (fun _=>?_)) | (simp (disch:=omega)only[↓wr,seval,wq,e,XG,XX]))
  all_goals (congr 2; simp only[nD]; grind)
 ·simp (disch:=omega)only[↓wr,seval,wq,eV]
  apply ah.eq<;>intro f
  ·obtain ⟨a,b,c,d,e⟩:=WG (l:=fQ s) (by omega)
   repeat' (first | (refine ah.dec (fun _=>?_) (fun _=>?_)) | (refine ah.eq (fun _=>?_) (fun _=>?_)) | (refine ah.ne (fun _=>?_) (fun _=>?_)) | (refine ah.split (fun _=>?_) (fun _=>?_)) | (simp (disch:=omega)only[↓wr,seval,wq,e,XG,XX]))
   all_goals (congr 2; simp only[nD]; grind)
  ·repeat' (first | (refine ah.dec (fun _=>?_) (fun _=>?_)) | (refine ah.eq (fun _=>?_) (fun _=>?_)) | (refine ah.ne (fun _=>?_) (fun _=>?_)) | (refine ah.split (fun _=>?_) (fun _=>?_)) | (simp (disch:=omega)only[↓wr,seval,wq,eV]))
   rw[Q0 (by omega) (by omega)]
theorem qA (s:ByteArray):∀ v∈[gs s],Tree v:=by intro v a; simp at a; subst a; exact .val _
theorem Fs (s:ByteArray):aA Tryz.prog 154 [gs s] (gb (gS (fQ s))) :=
 aA.of (qA s) ((QI s _).mono fun r H' h a _=>by rw[h.1]; exact .tree _ (.val _))
theorem R4 (s:ByteArray):aA Tryz.prog 192 [gs s] (gb (nD (fQ s))) :=
 aA.of (qA s) ((Rr s _).mono fun r H' h a _=>by rw[h.1]; exact .tree _ (.val _))
def rp (l:List Int):Bool:=gS l || nD l
theorem MG (s:ByteArray) (H:View):aw Tryz.prog 151 [gs s] H fun r H'=>r=gb (rp (fQ s))∧H'=H:=by
 refine aw.of mixed uV ?_
 simp (disch:=omega)only[↓wr,seval,wq,pS]
 refine ay.pure (Fs s) ?_
 repeat' (first | (refine ah.dec (fun _=>?_) (fun _=>?_)) | (refine ah.eq (fun _=>?_) (fun _=>?_)) | (refine ah.ne (fun _=>?_) (fun _=>?_)) | (refine ah.split (fun _=>?_) (fun _=>?_)) | (simp (disch:=omega)only[↓wr,seval,wq]))
 ·rename_i h; simp[rp,h]
 ·rename_i h
  refine ay.pure (R4 s) ?_
  repeat' (first | (refine ah.dec (fun _=>?_) (fun _=>?_)) | (refine ah.eq (fun _=>?_) (fun _=>?_)) | (refine ah.ne (fun _=>?_) (fun _=>?_)) | (refine ah.split (fun _=>?_) (fun _=>?_)) | (simp (disch:=omega)only[↓wr,seval,wq]))
  simp[rp,h]
theorem Nk (s:ByteArray):aA Tryz.prog 151 [gs s] (gb (rp (fQ s))) :=
 aA.of (qA s) ((MG s _).mono fun r H' h a _=>by rw[h.1]; exact .tree _ (.val _))
def oY (s:ByteArray):List ByteArray→Int→Int
 | [],_=>-1
 | x :: l,i=>if jo x s=true then i else oY s l (i+1)
def np (g:ag) (s:ByteArray):Int:=oY s (g.af.map Term.name) 0
def zM (g:ag) (s:ByteArray):Int:=oY s g.ak 0
theorem fp {α:Type} {l:List α} {i:Nat} (h:i < l.length):l.drop i=l[i] :: l.drop (i+1):=XW h
theorem Iw (g:ag) (s:ByteArray):∀ v∈[V.agg (ai g),gs s],Tree v:=by
 intro v a; simp at a
 rcases a with rfl | rfl
 ·exact cq _ (dE g)
 ·exact .val _
theorem fu (g:ag):∀ v∈[V.agg (ai g)],Tree v:=by intro v a; simp at a; subst a; exact cq _ (dE g)
theorem Ho (g:ag) (x:Int):∀ v∈[V.agg (ai g),gi x],Tree v:=by
 intro v a; simp at a
 rcases a with rfl | rfl
 ·exact cq _ (dE g)
 ·exact .val _
theorem aA.val {P:Program} {f:FuncId} {vs:List V} {x:Value} (a:∀ v∈vs,Tree v) (h:∀ H,aw P f vs H fun r _=>r=.val x):aA P f vs (.val x) :=
 aA.of a ((h _).mono fun r H' e b _=>by rw[e]; exact .tree _ (.val _))
def oC:SC :=
 ae [ae [ab [aa 6 5,ao 7 0 2,aj 8 7,aN 9 8,aV 10 .lss 6 9],bY 10 (.exit 0)],.block 1 (ae [ab [ao 13 0 2,aj 14 13,aa 15 5,aQ 16 3 14 15,ao 17 0 16,aj 18 17,aa 19 1,((some 20),.op (.yc .eql (.tmp 18) (.tmp 19)))],bf 20 (ae [ab [aa 21 5,aa 4 21],.ret])]),ab [aa 11 5,aH 12 .add 11 1,aa 5 12]]
def rQ:SF:=⟨ae [ab [cI 2 0,aS 4 0],ae [ab [aS 5 0],b6 0 oC],ab [aS 4 (-1)],.ret],
 [.tmp 4],22⟩
theorem vX:aR Tryz.prog 152 [2]=some rQ:=by kernel_rfl
def pV:SC :=
 ae [ae [ab [aa 6 5,ao 7 1 2,aj 8 7,aN 9 8,aV 10 .lss 6 9],bY 10 (.exit 0)],.block 1 (ae [ab [ao 13 1 2,aj 14 13,aa 15 5,aQ 16 1 14 15,aj 17 16,aa 18 1,((some 19),.op (.yc .eql (.tmp 17) (.tmp 18)))],bf 19 (ae [ab [aa 20 5,aa 4 20],.ret])]),ab [aa 11 5,aH 12 .add 11 1,aa 5 12]]
def r5:SF:=⟨ae [ab [cI 2 0,aS 4 0],ae [ab [aS 5 0],b6 0 pV],ab [aS 4 (-1)],.ret],
 [.tmp 4],21⟩
theorem xN:aR Tryz.prog 139 [2]=some r5:=by kernel_rfl
def od:SC :=
 ae [ae [ab [aa 8 6,ao 9 0 2,aj 10 9,aN 11 10,aV 12 .lss 8 11],bY 12 (.exit 0)],.block 1 (ae [.region false [⟨none,[ao 15 0 2,aj 16 15,aa 17 6,aQ 18 3 16 17,bg 19 3 18,((some 7),.op (.alloc [(.val (.string ⟨#[]⟩)),(.val (.int .i64 0)),(.val (.int .i64 0))])),bU 3 7 19]⟩],ae [ab [ao 20 1 7,aj 21 20,aa 22 1,aV 23 .neq 21 22],bf 23 (.exit 1)],ae [.region false [⟨none,[aa 24 5,aH 25 .neq 24 0,aa 26 25]⟩,⟨(some (26,true)),[aa 27 5,ao 28 2 7,aj 29 28,aV 30 .neq 27 29]⟩,⟨none,[eJ 31 26 30]⟩],bf 31 (ae [ab [bu 4 false],.ret])],ab [ao 32 2 7,aj 33 32,aa 5 33]]),ab [aa 13 6,aH 14 .add 13 1,aa 6 14]]
def qb:SF:=⟨ae [ab [cI 2 0,bu 4 false],ab [aS 5 0],ae [ab [aS 6 0],b6 0 od],ab [aa 34 5,aH 35 .neq 34 0,aa 4 35],.ret],
 [.tmp 4],36⟩
theorem uX:aR Tryz.prog 153 [2]=some qb:=by kernel_rfl
theorem NJ (g:ag) (d:g.Ok) (s:ByteArray) (H:View):aw Tryz.prog 152 [.agg (ai g),gs s] H fun r _=>r=gi (np g s):=by
 refine aw.of mixed vX ?_
 have hs:g.af.length < 4611686018427387904:=d.af
 simp (disch:=omega)only[↓wr,seval,wq,rQ,ai,encS]
 refine aU.intro (fun k T _=>∃ i:Nat,i+k=g.af.length∧oY s ((g.af.drop i).map Term.name) i=np g s∧T 1=gs s∧T 2=.aJ (ai g) 0∧T 5=gi i) g.af.length ?_ ?_
 ·exact ⟨0,by omega,rfl,rfl,rfl,rfl⟩
 ·rintro k T H' ⟨i,hk,hi,h1,a,b⟩
  simp (disch:=omega)only[↓wr,seval,wq,oC,h1,a,b,ai]
  apply ah.dec<;>intro e
  ·have c:g.af[i]?=some (g.af[i]'(by omega)):=Xc (by omega)
   rw[fp (show i < g.af.length by omega)] at hi
   generalize g.af[i]'(by omega)=t at c hi
   simp only[XF,oY] at hi
   simp (disch:=omega)only[↓wr,seval,wq,h1,a,b,ai,bW,Xf,c,Xk]
   apply ah.split<;>intro hd
   ·rw[Xg hd] at hi
    simp (disch:=omega)only[↓wr,seval,wq,h1,a,b]
    rw[hi]
   ·rw[hd,Xd (by simp)] at hi
    simp (disch:=omega)only[↓wr,seval,wq,h1,a,b]
    exact ⟨k - 1,by omega,i+1,by omega,by push_cast; exact hi,rfl,rfl⟩
  ·rw[XK (by omega)] at hi
   simp only[YK,oY] at hi
   simp (disch:=omega)only[↓wr,seval,wq,h1,a,b]
   rw[hi]
theorem Fh (g:ag) (a:g.Ok) (s:ByteArray):aA Tryz.prog 152 [.agg (ai g),gs s] (gi (np g s)):=aA.val (Iw g s) (NJ g a s)
theorem RU (g:ag) (d:g.Ok) (s:ByteArray) (H:View):aw Tryz.prog 139 [.agg (ai g),gs s] H fun r _=>r=gi (zM g s):=by
 refine aw.of mixed xN ?_
 have hs:g.ak.length < 4611686018427387904:=d.ak
 simp (disch:=omega)only[↓wr,seval,wq,r5,ai,encS]
 refine aU.intro (fun k T _=>∃ i:Nat,i+k=g.ak.length∧oY s (g.ak.drop i) i=zM g s∧T 1=gs s∧T 2=.aJ (ai g) 0∧T 5=gi i) g.ak.length ?_ ?_
 ·exact ⟨0,by omega,rfl,rfl,rfl,rfl⟩
 ·rintro k T H' ⟨i,hk,hi,h1,a,b⟩
  simp (disch:=omega)only[↓wr,seval,wq,pV,h1,a,b,ai,encS]
  apply ah.dec<;>intro e
  ·have c:g.ak[i]?=some (g.ak[i]'(by omega)):=Xc (by omega)
   rw[fp (show i < g.ak.length by omega)] at hi
   generalize g.ak[i]'(by omega)=t at c hi
   simp only[XF,oY] at hi
   simp (disch:=omega)only[↓wr,seval,wq,h1,a,b,ai,encS,Xf,c,Xk]
   apply ah.split<;>intro hd
   ·rw[Xg hd] at hi
    simp (disch:=omega)only[↓wr,seval,wq,h1,a,b]
    rw[hi]
   ·rw[hd,Xd (by simp)] at hi
    simp (disch:=omega)only[↓wr,seval,wq,h1,a,b]
    exact ⟨k - 1,by omega,i+1,by omega,by push_cast; exact hi,rfl,rfl⟩
  ·rw[XK (by omega)] at hi
   simp only[YK,oY] at hi
   simp (disch:=omega)only[↓wr,seval,wq,h1,a,b]
   rw[hi]
theorem RS (g:ag) (a:g.Ok) (s:ByteArray):aA Tryz.prog 139 [.agg (ai g),gs s] (gi (zM g s)):=aA.val (Iw g s) (RU g a s)
def jO (n:Int):List Term→Int→Option Int
 | [],way=>some way
 | t :: r,way=>if t.level=n then (if way≠0∧way≠t.assoc then none else jO n r t.assoc) else jO n r way
def iz (l:List Term) (n:Int):Bool:=match jO n l 0 with
 | some w=>w != 0
 | none=>false
theorem MX (g:ag) (j:g.Ok) (n:Int) (H:View):aw Tryz.prog 153 [.agg (ai g),gi n] H fun r _=>r=gb (iz g.af n):=by
 refine aw.of mixed uX ?_
 have hs:g.af.length < 4611686018427387904:=j.af
 simp (disch:=omega)only[↓wr,seval,wq,qb,ai,encS]
 refine aU.intro (fun k T _=>∃ (i:Nat) (w:Int),i+k=g.af.length∧jO n (g.af.drop i) w=jO n g.af 0∧T 1=gi n∧T 2=.aJ (ai g) 0∧T 5=gi w∧T 6=gi i) g.af.length ?_ ?_
 ·exact ⟨0,0,by omega,rfl,rfl,rfl,rfl,rfl⟩
 ·rintro k T H' ⟨i,w,hk,hi,h1,c,d,f⟩
  simp (disch:=omega)only[↓wr,seval,wq,od,h1,c,d,f,ai]
  apply ah.dec<;>intro l
  ·have h:g.af[i]?=some (g.af[i]'(by omega)):=Xc (by omega)
   rw[fp (show i < g.af.length by omega)] at hi
   generalize g.af[i]'(by omega)=t at h hi
   simp only[jO] at hi
   simp (disch:=omega)only[↓wr,seval,wq,h1,c,d,f,ai,bW,Xf,h,Xk]
   intro m hm
   try simp (disch:=omega)only[↓wr,seval,wq,h1,c,d,f]
   apply ah.ne<;>intro hd
   ·rw[Xd hd] at hi
    simp (disch:=omega)only[↓wr,seval,wq,h1,c,d,f]
    exact ⟨k - 1,by omega,i+1,w,by omega,hi,by first | rfl | exact ⟨rfl,rfl⟩ | exact ⟨rfl,rfl,rfl⟩⟩
   ·rw[Xg hd] at hi
    repeat' (first | (refine ah.dec (fun _=>?_) (fun _=>?_)) | (refine ah.eq (fun _=>?_) (fun _=>?_)) | (refine ah.ne (fun _=>?_) (fun _=>?_)) | (refine ah.split (fun _=>?_) (fun _=>?_)) | (simp (disch:=omega)only[↓wr,seval,wq,h1,c,d,f]))
    ·rename_i a b
     rw[Xg ⟨a,b⟩] at hi
     simp only[iz,← hi]
    ·rename_i a b
     rw[Xd (fun e=>e.2 b)] at hi
     exact ⟨k - 1,by omega,i+1,_,by omega,hi,by first | rfl | exact ⟨rfl,rfl⟩ | exact ⟨rfl,rfl,rfl⟩⟩
    ·rename_i a
     rw[Xd (fun e=>e.1 a)] at hi
     exact ⟨k - 1,by omega,i+1,_,by omega,hi,by first | rfl | exact ⟨rfl,rfl⟩ | exact ⟨rfl,rfl,rfl⟩⟩
  ·rw[XK (by omega)] at hi
   simp only[jO] at hi
   simp (disch:=omega)only[↓wr,seval,wq,h1,c,d,f]
   simp only[iz,← hi]
theorem Mk (g:ag) (a:g.Ok) (n:Int):aA Tryz.prog 153 [.agg (ai g),gi n] (gb (iz g.af n)):=aA.val (Ho g n) (MX g a n)
def sm (g:ag) (t:Term):Bool:=(List.range t.level.toNat).all fun k=>iz g.af ((k:Int)+1)
def kS (g:ag) (i:Int) (t:Term):Bool :=
 rp (fQ t.name) && (np g t.name == i) && decide (0≤t.level) && decide (t.level≤24) && decide (0≤t.assoc) && decide (t.assoc≤3) && ((t.level == 0) == (t.assoc == 0)) && sm g t
def ky (g:ag):List Term→Int→Bool
 | [],_=>true
 | t :: r,i=>kS g i t && ky g r (i+1)
def kE (g:ag):Bool:=decide (g.af.length≤24) && ky g g.af 0
def og:SC :=
 ae [ae [ab [aa 63 5,ao 64 1 4,aj 65 64,aV 66 .leq 63 65],bY 66 (.exit 2)],.block 3 (ae [ab [bg 69 4 1,aa 70 5,bz 71 153 [69,70],de 72 71],bf 72 (ae [ab [bu 2 false],.ret])]),ab [aa 67 5,aH 68 .add 67 1,aa 5 68]]
def nS:SC :=
 ae [ae [ab [aa 10 3,ao 11 0 1,aj 12 11,aN 13 12,aV 14 .lss 10 13],bY 14 (.exit 0)],.block 1 (ae [.region false [⟨none,[ao 17 0 1,aj 18 17,aa 19 3,aQ 20 3 18 19,bg 21 3 20,((some 4),.op (.alloc [(.val (.string ⟨#[]⟩)),(.val (.int .i64 0)),(.val (.int .i64 0))])),bU 3 4 21]⟩],ae [.region false [⟨none,[ao 22 0 4,aj 23 22,bz 24 151 [23],de 25 24,aa 26 25]⟩,⟨(some (26,false)),[bg 27 4 1,ao 28 0 4,aj 29 28,bz 30 152 [27,29],aa 31 3,aV 32 .neq 30 31]⟩,⟨none,[cz 33 26 32,aa 34 33]⟩,⟨(some (34,false)),[ao 35 1 4,aj 36 35,aH 37 .lss 36 0]⟩,⟨none,[cz 38 34 37,aa 39 38]⟩,⟨(some (39,false)),[ao 40 1 4,aj 41 40,aH 42 .gtr 41 24]⟩,⟨none,[cz 43 39 42,aa 44 43]⟩,⟨(some (44,false)),[ao 45 2 4,aj 46 45,aH 47 .lss 46 0]⟩,⟨none,[cz 48 44 47,aa 49 48]⟩,⟨(some (49,false)),[ao 50 2 4,aj 51 50,aH 52 .gtr 51 3]⟩,⟨none,[cz 53 49 52,aa 54 53]⟩,⟨(some (54,false)),[ao 55 1 4,aj 56 55,aH 57 .eql 56 0,ao 58 2 4,aj 59 58,aH 60 .eql 59 0,((some 61),.op (.beq false (.tmp 57) (.tmp 60)))]⟩,⟨none,[cz 62 54 61]⟩],bf 62 (ae [ab [bu 2 false],.ret])],ab [aS 5 1],b6 2 og]),ab [aa 15 3,aH 16 .add 15 1,aa 3 16]]
def pT:SF:=⟨ae [ab [cI 1 0,bu 2 false],ae [ab [ao 6 0 1,aj 7 6,aN 8 7,aH 9 .gtr 8 24],bf 9 (ae [ab [bu 2 false],.ret])],ae [ab [aS 3 0],b6 0 nS],ab [bu 2 true],.ret],
 [.tmp 2],73⟩
theorem vf:aR Tryz.prog 104 [1]=some pT:=by kernel_rfl
def oI:SC :=
 ae [ae [ab [aa 14 3,ao 15 1 1,aj 16 15,aN 17 16,aV 18 .lss 14 17],bY 18 (.exit 0)],.block 1 (ae [.region false [⟨none,[ao 21 1 1,aj 22 21,aa 23 3,aQ 24 1 22 23,aj 25 24,bz 26 154 [25],de 27 26,aa 28 27]⟩,⟨(some (28,false)),[bg 29 4 1,ao 30 1 1,aj 31 30,aa 32 3,aQ 33 1 31 32,aj 34 33,bz 35 139 [29,34],aa 36 3,aV 37 .neq 35 36]⟩,⟨none,[cz 38 28 37,aa 39 38]⟩,⟨(some (39,false)),[bg 40 4 1,ao 41 1 1,aj 42 41,aa 43 3,aQ 44 1 42 43,aj 45 44,bz 46 152 [40,45],aH 47 .geq 46 0]⟩,⟨none,[cz 48 39 47]⟩],bf 48 (ae [ab [bu 2 false],.ret])]),ab [aa 19 3,aH 20 .add 19 1,aa 3 20]]
def rh:SF:=⟨ae [ab [cI 1 0,bu 2 false],ae [.region false [⟨none,[ao 4 1 1,aj 5 4,aN 6 5,aH 7 .lss 6 1,aa 8 7]⟩,⟨(some (8,false)),[ao 9 1 1,aj 10 9,aN 11 10,aH 12 .gtr 11 16]⟩,⟨none,[cz 13 8 12]⟩],bf 13 (ae [ab [bu 2 false],.ret])],ae [ab [aS 3 0],b6 0 oI],ab [bu 2 true],.ret],
 [.tmp 2],49⟩
theorem wm:aR Tryz.prog 105 [1]=some rh:=by kernel_rfl
def oJ:SC :=
 ae [ae [ab [aa 23 5,ao 24 1 3,aj 25 24,aN 26 25,aV 27 .lss 23 26],bY 27 (.exit 0)],.block 1 (ae [.region false [⟨none,[bg 30 4 2,ao 31 1 3,aj 32 31,aa 33 5,aQ 34 1 32 33,aj 35 34,bz 36 155 [30,35],de 37 36,aa 38 37]⟩,⟨(some (38,false)),[ao 39 1 3,aj 40 39,aa 41 5,aQ 42 1 40 41,aj 43 42,aH 44 .geq 43 0,aa 45 44]⟩,⟨(some (45,true)),[ao 46 2 3,aj 47 46,aH 48 .eql 47 (-1)]⟩,⟨(some (38,false)),[eJ 49 45 48]⟩,⟨none,[cz 50 38 49]⟩],bf 50 (ae [ab [bu 4 false],.ret])]),ab [aa 28 5,aH 29 .add 28 1,aa 5 29]]
def rJ:SF:=⟨ae [ab [cI 2 0,cI 3 1,bu 4 false],ae [.region false [⟨none,[ao 6 1 3,aj 7 6,aN 8 7,aH 9 .gtr 8 6,aa 10 9]⟩,⟨(some (10,false)),[ao 11 2 3,aj 12 11,aH 13 .lss 12 (-1)]⟩,⟨none,[cz 14 10 13,aa 15 14]⟩,⟨(some (15,false)),[ao 16 2 3,aj 17 16,ao 18 0 2,aj 19 18,aN 20 19,aV 21 .geq 17 20]⟩,⟨none,[cz 22 15 21]⟩],bf 22 (ae [ab [bu 4 false],.ret])],ae [ab [aS 5 0],b6 0 oJ],ab [bu 4 true],.ret],
 [.tmp 4],51⟩
theorem vN:aR Tryz.prog 106 [2,3]=some rJ:=by kernel_rfl
def om:SC :=
 ae [ae [ab [aa 39 4,ao 40 2 1,aj 41 40,aN 42 41,aV 43 .lss 39 42],bY 43 (.exit 0)],.block 1 (ae [ab [ao 46 2 1,aj 47 46,aa 48 4,aQ 49 3 47 48,bg 50 3 49,((some 5),.op (.alloc [(.val (.int .i64 0)),(.emp 1),(.val (.int .i64 0))])),bU 3 5 50],ae [.region false [⟨none,[ao 51 0 5,aj 52 51,aH 53 .lss 52 0,aa 54 53]⟩,⟨(some (54,false)),[ao 55 0 5,aj 56 55,aa 57 3,aH 58 .add 57 1,aV 59 .gtr 56 58]⟩,⟨none,[cz 60 54 59,aa 61 60]⟩,⟨(some (61,false)),[bg 62 4 1,bg 63 3 5,bz 64 106 [62,63],de 65 64]⟩,⟨none,[cz 66 61 65]⟩],bf 66 (ae [ab [bu 2 false],.ret])],ab [ao 67 0 5,aj 68 67,aa 69 3,aV 70 .gtr 68 69],bf 70 (ab [ao 71 0 5,aj 72 71,aa 3 72])]),ab [aa 44 4,aH 45 .add 44 1,aa 4 45]]
def pL:SF:=⟨ae [ab [cI 1 0,bu 2 false],ae [.region false [⟨none,[bg 6 4 1,bz 7 104 [6],de 8 7,aa 9 8]⟩,⟨(some (9,false)),[bg 10 4 1,bz 11 105 [10],de 12 11]⟩,⟨none,[cz 13 9 12,aa 14 13]⟩,⟨(some (14,false)),[ao 15 2 1,aj 16 15,aN 17 16,aH 18 .lss 17 1]⟩,⟨none,[cz 19 14 18,aa 20 19]⟩,⟨(some (20,false)),[ao 21 2 1,aj 22 21,aN 23 22,aH 24 .gtr 23 40]⟩,⟨none,[cz 25 20 24,aa 26 25]⟩,⟨(some (26,false)),[ao 27 3 1,aj 28 27,aH 29 .lss 28 0]⟩,⟨none,[cz 30 26 29,aa 31 30]⟩,⟨(some (31,false)),[ao 32 3 1,aj 33 32,ao 34 1 1,aj 35 34,aN 36 35,aV 37 .geq 33 36]⟩,⟨none,[cz 38 31 37]⟩],bf 38 (ae [ab [bu 2 false],.ret])],ab [aS 3 (-1)],ae [ab [aS 4 0],b6 0 om],ab [aa 73 3,ao 74 1 1,aj 75 74,aN 76 75,aH 77 .sub 76 1,aV 78 .eql 73 77,aa 2 78],.ret],
 [.tmp 2],79⟩
theorem vh:aR Tryz.prog 54 [1]=some pL:=by kernel_rfl
theorem L2 (g:ag) (p:g.Ok) (H:View):aw Tryz.prog 104 [.agg (ai g)] H fun r _=>r=gb (kE g):=by
 refine aw.of mixed vf ?_
 simp (disch:=omega)only[↓wr,seval,wq,pT,ai,encS]
 apply ah.dec<;>intro h
 ·simp (disch:=omega)only[↓wr,seval,wq]
  simp[kE,show ¬ g.af.length≤24 by omega]
 ·have hle:g.af.length≤24:=by omega
  simp (disch:=omega)only[↓wr,seval,wq]
  refine aU.intro (fun k T _=>∃ i:Nat,i+k=g.af.length∧ky g (g.af.drop i) i=ky g g.af 0∧T 1=.aJ (ai g) 0∧T 3=gi i) g.af.length ?_ ?_
  ·exact ⟨0,by omega,rfl,rfl,rfl⟩
  ·rintro k T H' ⟨i,hk,hi,h1,d⟩
   simp (disch:=omega)only[↓wr,seval,wq,nS,h1,d,ai]
   apply ah.dec<;>intro y
   ·have f:g.af[i]?=some (g.af[i]'(by omega)):=Xc (by omega)
    rw[fp (show i < g.af.length by omega)] at hi
    have b:g.af[i]'(by omega)∈g.af:=Xm _
    generalize g.af[i]'(by omega)=t at f hi b
    obtain ⟨⟨z,A⟩,⟨B,C⟩⟩:=p.term t b
    simp only[ky] at hi
    have a:kS g i t=false→gb false=gb (kE g):=fun e=>by rw[e,YS] at hi; simp[kE,← hi]
    simp (disch:=omega)only[↓wr,seval,wq,h1,d,ai,bW,Xf,f,Xk]
    intro m hm
    try simp (disch:=omega)only[↓wr,seval,wq,h1,d]
    refine ay.pure (Nk t.name) ?_
    repeat' (first | (refine ah.dec (fun _=>?_) (fun _=>?_)) | (refine ah.eq (fun _=>?_) (fun _=>?_)) | (refine ah.ne (fun _=>?_) (fun _=>?_)) | (refine ah.split (fun _=>?_) (fun _=>?_)) | (simp (disch:=omega)only[↓wr,seval,wq,h1,d,ai]))
    all_goals try (refine a ?_; simp[kS, *]; done)
    rename_i s
    refine ay.pure (Fh g p t.name) ?_
    repeat' (first | (refine ah.dec (fun _=>?_) (fun _=>?_)) | (refine ah.eq (fun _=>?_) (fun _=>?_)) | (refine ah.ne (fun _=>?_) (fun _=>?_)) | (refine ah.split (fun _=>?_) (fun _=>?_)) | (simp (disch:=omega)only[↓wr,seval,wq,h1,d,ai]))
    all_goals try (refine a ?_; simp[kS, *]; done)
    all_goals try (refine a ?_; simp[kS]; grind)
    rename_i D I J K L E
    have c:kS g i t=sm g t:=by
     have u:((t.level == 0) == (t.assoc == 0))=true:=by simpa using E
     simp[kS,s,D,u,show (0:Int)≤t.level by omega,show t.level≤24 by omega,show (0:Int)≤t.assoc by omega,show t.assoc≤3 by omega]
    refine aU.intro (fun v T l=>∃ j:Nat,1≤j∧j+v=t.level.toNat+1∧(∀ q:Nat,q+1 < j→iz g.af ((q:Int)+1)=true)∧T 1=.aJ (ai g) 0∧T 3=gi i∧T 4=.ptr m 0 0∧l m=.arr 3 [[gs t.name,gi t.level,gi t.assoc]]∧T 5=gi j) t.level.toNat ?_ ?_
    ·refine ⟨1,by omega,by omega,fun q hq=>by omega,?_⟩
     simp (disch:=omega)only[↓wr,↓reduceIte,wq,Nat.reduceEqDiff,Nat.reduceAdd,Nat.reduceLT,Nat.reduceLeDiff,Int.reduceNeg,Int.reduceToNat,reduceCtorEq,h1,d,ai]
     rfl
    ·rintro v M l ⟨j,F,G,n,f1,f3,f4,o,f5⟩
     simp (disch:=omega)only[↓wr,seval,wq,og,f1,f3,f4,f5,o]
     apply ah.dec<;>intro hd
     ·simp (disch:=omega)only[↓wr,seval,wq,f1,f3,f4,f5,o,ai]
      refine ay.pure (Mk g p j) ?_
      repeat' (first | (refine ah.dec (fun _=>?_) (fun _=>?_)) | (refine ah.eq (fun _=>?_) (fun _=>?_)) | (refine ah.ne (fun _=>?_) (fun _=>?_)) | (refine ah.split (fun _=>?_) (fun _=>?_)) | (simp (disch:=omega)only[↓wr,seval,wq,f1,f3,f4,f5,o,ai]))
      ·rename_i w
       refine ⟨v - 1,by omega,j+1,by omega,by omega,fun q hq=>?_,by first | rfl | exact ⟨rfl,rfl⟩ | exact ⟨rfl,rfl,rfl⟩⟩
       by_cases e:q+1=j
       ·have:(q:Int)+1=j:=by omega
        rw[this]; exact w
       ·exact n q (by omega)
      ·rename_i w
       refine a ?_
       rw[c,sm,List.all_eq_false]
       refine ⟨j - 1,by simp; omega,?_⟩
       have:((j - 1:Nat):Int)+1=j:=by omega
       rw[this,w]; simp
     ·simp (disch:=omega)only[↓wr,seval,wq,f1,f3,f4,f5,o]
      refine ⟨k - 1,by omega,i+1,by omega,?_,by first | rfl | exact ⟨rfl,rfl⟩ | exact ⟨rfl,rfl,rfl⟩⟩
      have x:sm g t=true:=by
       rw[sm,XI]
       intro q hq
       exact n q (by simp at hq; omega)
      rw[c,x,Ys] at hi
      push_cast; exact hi
   ·rw[XK (by omega)] at hi
    simp only[ky] at hi
    simp (disch:=omega)only[↓wr,seval,wq,h1,d]
    simp[kE,hle,← hi]
theorem Mw (g:ag) (a:g.Ok):aA Tryz.prog 104 [.agg (ai g)] (gb (kE g)):=aA.val (fu g) (L2 g a)
def mE (g:ag) (i:Int) (s:ByteArray):Bool:=gS (fQ s) && (zM g s == i) && decide (np g s < 0)
def sy (g:ag):List ByteArray→Int→Bool
 | [],_=>true
 | s :: r,i=>mE g i s && sy g r (i+1)
def lC (g:ag):Bool:=decide (1≤g.ak.length) && decide (g.ak.length≤16) && sy g g.ak 0
theorem QH (g:ag) (h:g.Ok) (H:View):aw Tryz.prog 105 [.agg (ai g)] H fun r _=>r=gb (lC g):=by
 refine aw.of mixed wm ?_
 repeat' (first | (refine ah.dec (fun _=>?_) (fun _=>?_)) | (refine ah.eq (fun _=>?_) (fun _=>?_)) | (refine ah.ne (fun _=>?_) (fun _=>?_)) | (refine ah.split (fun _=>?_) (fun _=>?_)) | (simp (disch:=omega)only[↓wr,seval,wq,rh,ai,encS]))
 ·simp[lC,show ¬ 1≤g.ak.length by omega]
 ·simp[lC,show ¬ g.ak.length≤16 by omega]
 ·have hle:g.ak.length≤16:=by omega
  refine aU.intro (fun k T _=>∃ i:Nat,i+k=g.ak.length∧sy g (g.ak.drop i) i=sy g g.ak 0∧T 1=.aJ (ai g) 0∧T 3=gi i) g.ak.length ?_ ?_
  ·exact ⟨0,by omega,rfl,rfl,rfl⟩
  ·rintro k T H' ⟨i,hk,hi,h1,c⟩
   simp (disch:=omega)only[↓wr,seval,wq,oI,h1,c,ai,encS]
   apply ah.dec<;>intro j
   ·have b:g.ak[i]?=some (g.ak[i]'(by omega)):=Xc (by omega)
    rw[fp (show i < g.ak.length by omega)] at hi
    generalize g.ak[i]'(by omega)=t at b hi
    simp only[sy] at hi
    have a:mE g i t=false→gb false=gb (lC g):=fun e=>by rw[e,YS] at hi; simp[lC,← hi]
    simp (disch:=omega)only[↓wr,seval,wq,h1,c,ai,encS,Xf,b,Xk]
    refine ay.pure (Fs t) ?_
    repeat' (first | (refine ah.dec (fun _=>?_) (fun _=>?_)) | (refine ah.eq (fun _=>?_) (fun _=>?_)) | (refine ah.ne (fun _=>?_) (fun _=>?_)) | (refine ah.split (fun _=>?_) (fun _=>?_)) | (simp (disch:=omega)only[↓wr,seval,wq,h1,c,ai,encS,Xf,b,Xk]))
    all_goals try (refine a ?_; simp[mE, *]; done)
    rename_i d
    refine ay.pure (RS g h t) ?_
    repeat' (first | (refine ah.dec (fun _=>?_) (fun _=>?_)) | (refine ah.eq (fun _=>?_) (fun _=>?_)) | (refine ah.ne (fun _=>?_) (fun _=>?_)) | (refine ah.split (fun _=>?_) (fun _=>?_)) | (simp (disch:=omega)only[↓wr,seval,wq,h1,c,ai,encS,Xf,b,Xk]))
    all_goals try (refine a ?_; simp[mE, *]; done)
    rename_i f
    refine ay.pure (Fh g h t) ?_
    repeat' (first | (refine ah.dec (fun _=>?_) (fun _=>?_)) | (refine ah.eq (fun _=>?_) (fun _=>?_)) | (refine ah.ne (fun _=>?_) (fun _=>?_)) | (refine ah.split (fun _=>?_) (fun _=>?_)) | (simp (disch:=omega)only[↓wr,seval,wq,h1,c,ai,encS]))
    all_goals try (refine a ?_; simp[mE, *]; done)
    rename_i l
    refine ⟨k - 1,by omega,i+1,by omega,?_,by first | rfl | exact ⟨rfl,rfl⟩ | exact ⟨rfl,rfl,rfl⟩⟩
    have:mE g i t=true:=by simp[mE,d,f,show np g t < 0 by omega]
    rw[this,Ys] at hi
    push_cast; exact hi
   ·rw[XK (by omega)] at hi
    simp only[sy] at hi
    simp (disch:=omega)only[↓wr,seval,wq,h1,c]
    simp[lC,hle,show 1≤g.ak.length by omega,← hi]
theorem P5 (g:ag) (a:g.Ok):aA Tryz.prog 105 [.agg (ai g)] (gb (lC g)):=aA.val (fu g) (QH g a)
def nz (g:ag) (prec s:Int):Bool:=gu g s && !(decide (0≤s) && prec == -1)
def jc (g:ag) (r:aW):Bool:=decide (r.right.length≤6) && decide (-1≤r.prec) && decide (r.prec < g.af.length) && r.right.all (nz g r.prec)
theorem Jg (g:ag) (r:aW):∀ v∈[V.agg (ai g),V.agg (aP r)],Tree v:=by
 intro v a; simp at a
 rcases a with rfl | rfl
 ·exact cq _ (dE g)
 ·exact cq _ (ia r)
theorem Pe (g:ag) (r:aW) (hr:aL r.right∧∀ x∈r.right,cy x) (H:View):aw Tryz.prog 106 [.agg (ai g),.agg (aP r)] H fun v _=>v=gb (jc g r):=by
 refine aw.of mixed vN ?_
 repeat' (first | (refine ah.dec (fun _=>?_) (fun _=>?_)) | (refine ah.eq (fun _=>?_) (fun _=>?_)) | (refine ah.ne (fun _=>?_) (fun _=>?_)) | (refine ah.split (fun _=>?_) (fun _=>?_)) | (simp (disch:=omega)only[↓wr,seval,wq,rJ,ai,encS,aP,encI]))
 ·simp[jc,show ¬ r.right.length≤6 by omega]
 ·simp[jc,show ¬ -1≤r.prec by omega]
 ·simp[jc,show ¬ r.prec < g.af.length by omega]
 ·have hle:r.right.length≤6:=by omega
  have j : -1≤r.prec:=by omega
  have l:r.prec < g.af.length:=by omega
  refine aU.intro (fun k T _=>∃ i:Nat,i+k=r.right.length∧(r.right.drop i).all (nz g r.prec)=r.right.all (nz g r.prec)∧T 2=.aJ (ai g) 0∧T 3=.aJ (aP r) 0∧T 5=gi i) r.right.length ?_ ?_
  ·exact ⟨0,by omega,rfl,rfl,rfl,rfl⟩
  ·rintro k T H' ⟨i,hk,hi,d,f,h⟩
   simp (disch:=omega)only[↓wr,seval,wq,oJ,d,f,h,aP,encI]
   apply ah.dec<;>intro o
   ·have b:r.right[i]?=some (r.right[i]'(by omega)):=Xc (by omega)
    rw[fp (show i < r.right.length by omega)] at hi
    have a:r.right[i]'(by omega)∈r.right:=Xm _
    generalize r.right[i]'(by omega)=t at b hi a
    have m:=hr.2 t a
    simp only[Yv] at hi
    have c:nz g r.prec t=false→gb false=gb (jc g r):=fun e=>by rw[e,YS] at hi; simp only[jc,← hi,Bool.and_false]
    have n:nz g r.prec t=true→(r.right.drop (i+1)).all (nz g r.prec)=r.right.all (nz g r.prec):=fun e=>by rw[e,Ys] at hi; exact hi
    simp (disch:=omega)only[↓wr,seval,wq,d,f,h,ai,encS,aP,encI,Xf,b,Xk]
    refine ay.pure (Vl g t m) ?_
    repeat' (first | (refine ah.dec (fun _=>?_) (fun _=>?_)) | (refine ah.eq (fun _=>?_) (fun _=>?_)) | (refine ah.ne (fun _=>?_) (fun _=>?_)) | (refine ah.split (fun _=>?_) (fun _=>?_)) | (simp (disch:=omega)only[↓wr,seval,wq,d,f,h,ai,encS,aP,encI,Xf,b,Xk]))
    all_goals first
     | (refine c ?_; simp[nz, *]; done)
     | (refine ⟨k - 1,by omega,i+1,by omega,n (by simp[nz, *]; done),by first | rfl | exact ⟨rfl,rfl⟩ | exact ⟨rfl,rfl,rfl⟩⟩)
     | skip
   ·rw[XK (by omega)] at hi
    simp only[List.all_nil] at hi
    simp (disch:=omega)only[↓wr,seval,wq,d,f,h]
    simp only[jc,hle,j,l,decide_true,Ys,← hi]
theorem QM (g:ag) (r:aW) (hr:aL r.right∧∀ x∈r.right,cy x):aA Tryz.prog 106 [.agg (ai g),.agg (aP r)] (gb (jc g r)):=aA.val (Jg g r) (Pe g r hr)
def iA (g:ag):List aW→Int→Bool
 | [],top=>top == (g.ak.length:Int) - 1
 | r :: l,top=>decide (0≤r.left) && decide (r.left≤top+1) && jc g r && iA g l (if r.left > top then r.left else top)
def bG (g:ag):Bool :=
 kE g && lC g && decide (1≤g.rules.length) && decide (g.rules.length≤40) && decide (0≤g.start) && decide (g.start < g.ak.length) && iA g g.rules (-1)
theorem Nj (g:ag) (h:g.Ok) (H:View):aw Tryz.prog 54 [.agg (ai g)] H fun r _=>r=gb (bG g):=by
 refine aw.of mixed vh ?_
 have o:=h.ak
 unfold aL at o
 simp (disch:=omega)only[↓wr,seval,wq,pL,ai,encS]
 refine ay.pure (Mw g h) ?_
 repeat' (first | (refine ah.dec (fun _=>?_) (fun _=>?_)) | (refine ah.eq (fun _=>?_) (fun _=>?_)) | (refine ah.ne (fun _=>?_) (fun _=>?_)) | (refine ah.split (fun _=>?_) (fun _=>?_)) | (simp (disch:=omega)only[↓wr,seval,wq,ai,encS]))
 ·rename_i h1
  refine ay.pure (P5 g h) ?_
  repeat' (first | (refine ah.dec (fun _=>?_) (fun _=>?_)) | (refine ah.eq (fun _=>?_) (fun _=>?_)) | (refine ah.ne (fun _=>?_) (fun _=>?_)) | (refine ah.split (fun _=>?_) (fun _=>?_)) | (simp (disch:=omega)only[↓wr,seval,wq,ai,encS]))
  all_goals try (simp[bG, *]; done)
  all_goals try (simp[bG]; omega)
  rename_i p y z A B
  have hle:g.rules.length≤40:=by omega
  have a:∀ b,iA g g.rules (-1)=b→gb b=gb (bG g):=fun b e=>by
   simp[bG,h1,p,show 1≤g.rules.length by omega,hle,show 0≤g.start by omega,show g.start < g.ak.length by omega,e]
  refine aU.intro (fun k T _=>∃ (i:Nat) (w:Int),i+k=g.rules.length∧-1≤w∧w < i∧iA g (g.rules.drop i) w=iA g g.rules (-1)∧T 1=.aJ (ai g) 0∧T 3=gi w∧T 4=gi i) g.rules.length ?_ ?_
  ·exact ⟨0,-1,by omega,by omega,by omega,rfl,rfl,rfl,rfl⟩
  ·rintro k T H' ⟨i,w,hk,q,s,hi,f1,f3,f4⟩
   simp (disch:=omega)only[↓wr,seval,wq,om,f1,f3,f4,ai]
   apply ah.dec<;>intro u
   ·have d:g.rules[i]?=some (g.rules[i]'(by omega)):=Xc (by omega)
    rw[fp (show i < g.rules.length by omega)] at hi
    have c:g.rules[i]'(by omega)∈g.rules:=Xm _
    generalize g.rules[i]'(by omega)=t at d hi c
    obtain ⟨⟨v,x⟩,hp,j,l⟩:=h.ax t c
    simp only[iA] at hi
    simp (disch:=omega)only[↓wr,seval,wq,f1,f3,f4,ai,encS,aP,encI,Xf,d,Xk]
    intro m hm
    try simp (disch:=omega)only[↓wr,seval,wq,f1,f3,f4]
    repeat' (first | (refine ah.dec (fun _=>?_) (fun _=>?_)) | (refine ah.eq (fun _=>?_) (fun _=>?_)) | (refine ah.ne (fun _=>?_) (fun _=>?_)) | (refine ah.split (fun _=>?_) (fun _=>?_)) | (simp (disch:=omega)only[↓wr,seval,wq,f1,f3,f4,ai,encS,aP,encI]))
    all_goals try (refine a _ ?_; simp only[← hi]; simp; omega)
    rename_i C D
    refine ay.pure (QM g t ⟨j,l⟩) ?_
    repeat' (first | (refine ah.dec (fun _=>?_) (fun _=>?_)) | (refine ah.eq (fun _=>?_) (fun _=>?_)) | (refine ah.ne (fun _=>?_) (fun _=>?_)) | (refine ah.split (fun _=>?_) (fun _=>?_)) | (simp (disch:=omega)only[↓wr,seval,wq,f1,f3,f4,ai,encS,aP,encI]))
    all_goals simp only[show 0≤t.left by omega,show t.left≤w+1 by omega,decide_true,Ys] at hi
    ·rename_i f n
     rw[f,Ys,Xg n] at hi
     exact ⟨k - 1,by omega,i+1,_,by omega,by omega,by push_cast; omega,hi,by first | rfl | exact ⟨rfl,rfl⟩ | exact ⟨rfl,rfl,rfl⟩⟩
    ·rename_i f n
     rw[f,Ys,Xd n] at hi
     exact ⟨k - 1,by omega,i+1,_,by omega,by omega,by push_cast; omega,hi,by first | rfl | exact ⟨rfl,rfl⟩ | exact ⟨rfl,rfl,rfl⟩⟩
    ·rename_i f
     rw[f,YS] at hi
     exact a _ hi.symm
   ·rw[XK (by omega)] at hi
    simp only[iA] at hi
    simp (disch:=omega)only[↓wr,seval,wq,f1,f3,f4,ai,encS]
    exact a _ hi.symm
 ·rename_i h1; simp[bG,h1]
theorem sJ (g:ag) (a:g.Ok):aA Tryz.prog 54 [.agg (ai g)] (gb (bG g)):=aA.val (fu g) (Nj g a)
inductive cK (α:Type) where
 | nil
 | node (v:α) (l r:cK α)
noncomputable def cK.get {α:Type} (z:α) (t:cK α):Nat→α :=
 cK.rec (motive:=fun _=>Nat→α) (fun _=>z) (fun v _ _ gl gr i=>Bool.rec (Bool.rec (gr (i / 2 - 1)) (gl (i / 2)) (Nat.beq (i % 2) 1)) v (Nat.beq i 0)) t
theorem cK.get_nil {α:Type} (z:α) (i:Nat):cK.get z .nil i=z:=rfl
theorem cK.RH {α:Type} (z v:α) (l r:cK α) (i:Nat):cK.get z (.node v l r) i=match Nat.beq i 0 with
  | true=>v
  | false=>match Nat.beq (i % 2) 1 with
   | true=>cK.get z l (i / 2)
   | false=>cK.get z r (i / 2 - 1):=by
 change (Bool.rec (motive:=fun _=>α) _ _ _:α)=_
 cases Nat.beq i 0 with
 | true=>rfl
 | false=>cases Nat.beq (i % 2) 1 <;> rfl
def cK.val {α:Type} (z:α):cK α→α
 | .nil=>z
 | .node v _ _=>v
def cK.left {α:Type} : cK α→cK α
 | .nil=>.nil
 | .node _ l _=>l
def cK.right {α:Type} : cK α→cK α
 | .nil=>.nil
 | .node _ _ r=>r
noncomputable def cK.put {α:Type} (z:α) (x:α) (d:Nat):cK α→Nat→cK α :=
 Nat.rec (motive:=fun _=>cK α→Nat→cK α) (fun t _=>t) (fun _ pd t i =>
  Bool.rec (Bool.rec (.node (t.val z) t.left (pd t.right (i / 2 - 1))) (.node (t.val z) (pd t.left (i / 2)) t.right) (Nat.beq (i % 2) 1)) (.node x t.left t.right) (Nat.beq i 0)) d
theorem cK.Ra {α:Type} (z x:α) (d:Nat) (t:cK α) (i:Nat):cK.put z x (d+1) t i=match Nat.beq i 0 with
  | true=>.node x t.left t.right
  | false=>match Nat.beq (i % 2) 1 with
   | true=>.node (t.val z) (cK.put z x d t.left (i / 2)) t.right
   | false=>.node (t.val z) t.left (cK.put z x d t.right (i / 2 - 1)):=by
 change (Bool.rec (motive:=fun _=>cK α) _ _ _:cK α)=_
 cases Nat.beq i 0 with
 | true=>rfl
 | false=>cases Nat.beq (i % 2) 1 <;> rfl
theorem cK.nJ {α:Type} (z:α) (t:cK α) (j:Nat):t.get z j=if j=0 then t.val z else if j % 2=1 then t.left.get z (j / 2) else t.right.get z (j / 2 - 1):=by
 cases t with
 | nil=>simp[cK.get_nil,cK.val,cK.left,cK.right]
 | node v l r =>
  simp only[cK.RH,cK.val,cK.left,cK.right]
  by_cases h:j=0
  ·subst h; rfl
  ·have:Nat.beq j 0=false:=by cases e:Nat.beq j 0 with | true=>exact absurd (Y8 e) h | false=>rfl
   rw[this,Xd h]
   simp only
   by_cases a:j % 2=1
   ·have:Nat.beq (j % 2) 1=true:=by rw[a]; rfl
    rw[this,Xg a]
   ·have:Nat.beq (j % 2) 1=false:=by cases e:Nat.beq (j % 2) 1 with | true=>exact absurd (Y8 e) a | false=>rfl
    rw[this,Xd a]
theorem cK.oq {α:Type} (z x:α):∀ (d:Nat) (t:cK α) (i j:Nat),i+1 < 2 ^ d→(cK.put z x d t i).get z j=if j=i then x else t.get z j
 | 0,t,i,j,h=>by simp at h
 | d+1,t,i,j,h=>by
  rw[Nat.pow_succ] at h
  simp only[cK.Ra]
  by_cases hi:i=0
  ·subst hi
   have:Nat.beq 0 0=true:=rfl
   rw[this]
   simp only
   rw[cK.nJ,cK.nJ z t]
   simp only[cK.val,cK.left,cK.right]
   by_cases b:j=0
   ·rw[Xg b,Xg b]
   ·rw[Xd b,Xd b,Xd b]
  ·have:Nat.beq i 0=false:=by cases e:Nat.beq i 0 with | true=>exact absurd (Y8 e) hi | false=>rfl
   rw[this]
   simp only
   by_cases c:i % 2=1
   ·have:Nat.beq (i % 2) 1=true:=by rw[c]; rfl
    rw[this]
    simp only
    rw[cK.nJ,cK.nJ z t]
    simp only[cK.val,cK.left,cK.right]
    by_cases b:j=0
    ·subst b; rw[Xg rfl,Xd (fun e=>hi e.symm),Xg rfl]
    ·rw[Xd b,Xd b]
     by_cases a:j % 2=1
     ·rw[Xg a,Xg a,cK.oq z x d _ _ _ (by omega)]
      by_cases e:j=i
      ·subst e; simp
      ·rw[Xd e,Xd (by omega)]
     ·rw[Xd a,Xd a,Xd (fun e=>a (by rw[e]; exact c))]
   ·have:Nat.beq (i % 2) 1=false:=by cases e:Nat.beq (i % 2) 1 with | true=>exact absurd (Y8 e) c | false=>rfl
    rw[this]
    simp only
    rw[cK.nJ,cK.nJ z t]
    simp only[cK.val,cK.left,cK.right]
    by_cases b:j=0
    ·subst b; rw[Xg rfl,Xd (fun e=>hi e.symm),Xg rfl]
    ·rw[Xd b,Xd b]
     by_cases a:j % 2=1
     ·rw[Xg a,Xg a,Xd (fun e=>c (by rw[← e]; exact a))]
     ·rw[Xd a,Xd a,cK.oq z x d _ _ _ (by omega)]
      by_cases e:j=i
      ·subst e; simp
      ·rw[Xd e,Xd (by omega)]
abbrev deep:Nat:=13
structure ES where
 L:cK V
 H:cK c6
 n:Nat
 w:List Nat
noncomputable def ES.T (s:ES):Env:=s.L.get .any
noncomputable def ES.V (s:ES):View:=s.H.get .dead
noncomputable def ES.put (s:ES) (d:Option Nat) (v:Gv.V):ES:=match d with
 | some t=>⟨s.L.put .any v deep t,s.H,s.n,s.w⟩
 | none=>s
theorem ES.Te {s:ES} {d:Option Nat} {v:Gv.V} (h:∀ t,d=some t→t < 8000):(s.put d v).T=s.T.put d v:=by
 cases d with
 | none=>rfl
 | some t =>
  funext k
  have:=h t rfl
  simp only[ES.put,ES.T,Env.put]
  rw[cK.oq _ _ _ _ _ _ (by simp[deep]; omega)]
noncomputable def G3 (v:V) (eff:bA) (rd:List Nat) (s:ES):Option (V × ES × Rec):=match eff with
 | .none=>some (v,s,⟨rd,[],false,s.n,s.n⟩)
 | .new o=>match Nat.ble s.n 8000 with
  | true=>some (v,⟨s.L,s.H.put .dead o deep s.n,s.n+1,s.w⟩,⟨rd,[],false,s.n,s.n+1⟩)
  | false=>none
 | .fk id o=>match Nat.ble id 8000 with
  | true=>some (v,⟨s.L,s.H.put .dead o deep id,s.n,id :: s.w⟩,⟨rd,[id],false,s.n,s.n⟩)
  | false=>none
 | .fa id o=>match Nat.ble s.n 8000,Nat.ble id 8000 with
  | true,true=>some (v,⟨s.L,(s.H.put .dead .dead deep id).put .dead o deep s.n,s.n+1,id :: s.w⟩,⟨rd,[id],false,s.n,s.n+1⟩)
  | _,_=>none
noncomputable def Wg (x:SX) (_:Program) (T:Env) (_:View) (_:Nat):Out:=some (x.at T,.none,[])
noncomputable def VG (c a b:SX) (_:Program) (T:Env) (_:View) (_:Nat):Out:=match c.at T with
 | .val (.bool t)=>some (if t then a.at T else b.at T,.none,[])
 | _=>none
noncomputable def Vu (sz:Option Nat) (a:SX) (_:Program) (T:Env) (H:View) (_:Nat):Out:=wY sz (a.at T) H
noncomputable def Vt (sz:Nat) (a x:SX) (_:Program) (T:Env) (H:View) (_:Nat):Out:=Ct sz (a.at T) (x.at T) H
noncomputable def VT (off:Nat) (x:SX) (_:Program) (T:Env) (_:View) (_:Nat):Out:=As off (x.at T)
noncomputable def Wy (sz:Nat) (x i:SX) (_:Program) (T:Env) (_:View) (_:Nat):Out:=EL sz (x.at T) (i.at T)
noncomputable def Wh (x:SX) (_:Program) (T:Env) (_:View) (_:Nat):Out:=(cH (x.at T)).map fun n=>(iL n,.none,[])
noncomputable def Vj (op:BinOp) (x y:SX) (_:Program) (T:Env) (_:View) (_:Nat):Out:=yR op (x.at T) (y.at T)
noncomputable def V6 (op:BinOp) (x y:SX) (_:Program) (T:Env) (_:View) (_:Nat):Out:=BM op (x.at T) (y.at T)
noncomputable def WC (x:SX) (_:Program) (T:Env) (_:View) (_:Nat):Out:=match x.at T with
 | .val (.bool t)=>some (.val (.bool (!t)),.none,[])
 | _=>none
noncomputable def Ws (i:Nat) (x:SX) (_:Program) (T:Env) (_:View) (_:Nat):Out:=match x.at T with
 | .bp vs=>if i < vs.length then some (vs.getD i .any,.none,[]) else none
 | _=>none
noncomputable def VQ (x:SX) (_:Program) (T:Env) (_:View) (_:Nat):Out:=match x.at T with
 | .ptr id i j=>some (.ptr id i j,.none,[])
 | .aJ e j=>some (.aJ e j,.none,[])
 | .fn f a b=>some (.fn f a b,.none,[])
 | _=>none
noncomputable def eI (s:SI):Program→Env→View→Nat→Out:=match s with
 | .fa x=>Wg x
 | .pick c a b=>VG c a b
 | .load sz a=>Vu sz a
 | .store sz a x=>Vt sz a x
 | .addr o x=>VT o x
 | .idx sz x i=>Wy sz x i
 | .len x=>Wh x
 | .arith op x y=>Vj op x y
 | .yc op x y=>V6 op x y
 | .not x=>WC x
 | .ext i x=>Ws i x
 | .B5 x=>VQ x
 | s=>fun P T H n=>sI P s T H n
theorem MT (s:SI) (P:Program) (T:Env) (H:View) (n:Nat):eI s P T H n=sI P s T H n:=by
 cases s <;> rfl
abbrev iZ:=FuncId→List V→ES→Option (V × ES)
noncomputable def Pl (P:Program) (s:SI) (e:ES):Option (V × ES × Rec):=match eI s P e.T e.V e.n with
 | some (v,eff,rd)=>G3 v eff rd e
 | none=>none
noncomputable def Qf (call:iZ) (f:SX) (args:List SX) (e:ES):Option (V × ES × Rec):=match f.at e.T with
 | .fn g first cap=>match call g (first ++ args.map (SX.at e.T) ++ cap) e with
  | some (v,e')=>some (v,⟨e.L,e'.H,e'.n,e'.w ++ e.w⟩,⟨[],e'.w,true,e.n,e'.n⟩)
  | none=>none
 | _=>none
noncomputable def eB (P:Program) (call:iZ) (b:SB):ES→Option (V × ES × Rec):=match b with
 | .op s=>Pl P s
 | .call f args=>Qf call f args
 | .wW ..=>fun _=>none
noncomputable def LJ (P:Program) (call:iZ):List (Option Nat × SB)→List Rec→ES→Option (ES × List Rec)
 | [],a,e=>some (e,a)
 | (d,b) :: r,a,e=>match eB P call b e with
  | some (v,e',c)=>LJ P call r (a ++ [c]) (e'.put d v)
  | none=>none
noncomputable def S4 (e:ES):Rec:=⟨[],[],false,e.n,e.n⟩
noncomputable def xh:List (Option Nat × SB)→List Rec→ES→ES × List Rec
 | [],a,e=>(e,a)
 | (d,_) :: r,a,e=>xh r (a ++ [S4 e]) (e.put d (.bp []))
noncomputable def NR (P:Program) (call:iZ) (ops:List (Option Nat × SB)) (want:Bool) (v:V) (a:List Rec) (e:ES):Option (ES × List Rec):=match v with
 | .val (.bool b)=>match xor b want with
  | true=>some (xh ops a e)
  | false=>LJ P call ops a e
 | .bp []=>some (xh ops a e)
 | _=>none
noncomputable def eG (P:Program) (call:iZ) (g:SG) (a:List Rec) (e:ES):Option (ES × List Rec):=match g.guard with
 | none=>LJ P call g.ops a e
 | some (d,want)=>NR P call g.ops want (e.T d) a e
noncomputable def OE (P:Program) (call:iZ):List SG→List Rec→ES→Option (ES × List Rec)
 | [],a,e=>some (e,a)
 | g :: r,a,e=>match eG P call g a e with
  | some (e',a')=>OE P call r a' e'
  | none=>none
inductive DC where
 | skip
 | region (ps:List (Nat × Nat)) (gs:List SG)
 | seq (x y:DC)
 | cond (c:SX) (x y:DC)
 | block (id:Nat) (c:DC)
 | loop (c:DC)
 | exit (id:Nat)
 | ret
 deriving Inhabited
def QB (recs:List Rec) (ps:List (Nat × Nat)):Bool:=ps.all fun (i,k)=>match recs[i]?,recs[k]? with
 | some a,some b=>Ex a b
 | _,_=>false
abbrev ER:=Option (Exit × ES)
abbrev x8:=DC→ES→ER
noncomputable def PQ:ES→ER:=fun e=>some (.normal,e)
noncomputable def K2 (P:Program) (call:iZ) (ps:List (Nat × Nat)) (gs:List SG) (e:ES):ER:=match OE P call gs [] e with
 | some (e',recs)=>match QB recs ps with
  | true=>some (.normal,e')
  | false=>none
 | none=>none
noncomputable def Vi (run:x8) (x y:DC) (e:ES):ER:=match run x e with
 | some (.normal,e')=>run y e'
 | r=>r
noncomputable def SU (run:x8) (c:SX) (x y:DC) (e:ES):ER:=match c.at e.T with
 | .val (.bool true)=>run x e
 | .val (.bool false)=>run y e
 | _=>none
noncomputable def Qv (run:x8) (id:Nat) (c:DC) (e:ES):ER:=match run c e with
 | some (r,e')=>some (qQ id r,e')
 | none=>none
noncomputable def Tf (run:x8) (c:DC) (e:ES):ER:=match run c e with
 | some (.normal,e')=>run (.loop c) e'
 | r=>r
noncomputable def nh (P:Program) (call:iZ) (run:x8) (c:DC):ES→ER:=match c with
 | .skip=>PQ
 | .region ps gs=>K2 P call ps gs
 | .seq x y=>Vi run x y
 | .cond c x y=>SU run c x y
 | .block id c=>Qv run id c
 | .loop c=>Tf run c
 | .exit id=>fun e=>some (.exit id,e)
 | .ret=>fun e=>some (.ret,e)
noncomputable def Sz (r:SR) (e:ES):Option V:=match r with
 | .tmp t=>some (e.T t)
 | .cell t sz=>match e.T t with
  | .ptr id i j=>match e.V id with
   | .arr _ es=>if i < es.length then nb sz (es.getD i []) j else none
   | _=>none
  | .aJ e j=>nb sz e j
  | _=>none
noncomputable def xw:List SR→ES→Option (List V)
 | [],_=>some []
 | r :: l,e=>match Sz r e,xw l e with
  | some v,some vs=>some (v :: vs)
  | _,_=>none
noncomputable def oz:List V→Nat→cK V→cK V
 | [],_,t=>t
 | v :: vs,i,t=>oz vs (i+1) (t.put .any v deep i)
structure DF where
 code:DC
 res:List SR
 n:Nat
noncomputable def UG (l:List SR) (r:ER):Option (V × ES):=match r with
 | some (.ret,e)=>(xw l e).map fun vs=>(xZ vs,e)
 | some (.normal,e)=>(xw l e).map fun vs=>(xZ vs,e)
 | _=>none
noncomputable def U2 (m:Nat) (r:Option (V × ES)):Option (V × ES):=match r with
 | some (v,e)=>some (v,⟨e.L,e.H,e.n,e.w.filter fun id=>Nat.blt id m⟩)
 | none=>none
noncomputable def UQ (run:x8) (F:DF) (vs:List V) (e:ES):Option (V × ES):=match Nat.ble vs.length F.n,Nat.ble F.n 8000 with
 | true,true=>U2 e.n (UG F.res (run F.code ⟨oz vs 0 .nil,e.H,e.n,[]⟩))
 | _,_=>none
abbrev zN:=FuncId→List V→View→Option V
noncomputable def GY (P:Program) (tab:List (FuncId × DF)) (ext:zN) (run:x8) (g:FuncId) (vs:List V) (e:ES):Option (V × ES):=match ext g vs e.V with
 | some t=>some (t,⟨e.L,e.H,e.n,[]⟩)
 | none=>match tab.find? (fun p=>Nat.beq p.1 g) with
  | some (_,F)=>UQ run F vs e
  | none=>none
noncomputable def HK (P:Program) (tab:List (FuncId × DF)) (ext:zN):Nat→x8
 | 0=>fun _ _=>none
 | k+1=>nh P (GY P tab ext (HK P tab ext k)) (HK P tab ext k)
def Dw (all:List Oper) (ls:List Nat):List (Nat × Nat) :=
 let b:=fW all []
 (ls.zipIdx.map fun (x,i)=>(ls.zipIdx.filter fun (y,k)=>decide (i < k) && !(ordered b i k || x == 0 || y == 0 || (decide (x≤1) && decide (y≤1)))).map fun (_,k)=>(i,k)).flatten
def Hc (P:Program) (n:Nat) (fz:List Nat) (ops:List Oper) (draw:Bool):Option DC:=match dN P n ops ⟨fz,false⟩ ops with
 | none=>none
 | some l=>if !(group l).all uH then none else
  if draw then (if mQ ops then some (.region (Dw ops (l.map fun s=>jz P false s.b)) (group l)) else none) else some (.region [] (group l))
def jJ (P:Program) (n:Nat) (fz:List Nat):Code→Option DC
 | .skip=>some .skip
 | .region _ ops draw=>Hc P n fz ops.toList draw
 | .seq x y=>match jJ P n fz x,jJ P n fz y with
  | some a,some b=>some (.seq a b)
  | _,_=>none
 | .cond c x y=>match jJ P n fz x,jJ P n fz y with
  | some a,some b=>some (.cond (SX.of c) a b)
  | _,_=>none
 | .block id c=>(jJ P n fz c).map (.block id)
 | .loop c=>(jJ P n fz c).map .loop
 | .exit id=>some (.exit id)
 | .ret=>some .ret
 | _=>none
abbrev Xa (l:List (Option Nat × SB)):DC:=.region [] [⟨none,l⟩]
def I9 (P:Program) (f:FuncId) (fz:List Nat):Option DF:=match P.funcs[f]? with
 | some fn=>match fn.body with
  | some c=>match jJ P fn.ntmps fz c,ga P fn.results.toList,dJ P f with
   | some sc,some rs,true=>some ⟨sc,rs,fn.ntmps⟩
   | _,_,_=>none
  | none=>none
 | none=>none
end Gv

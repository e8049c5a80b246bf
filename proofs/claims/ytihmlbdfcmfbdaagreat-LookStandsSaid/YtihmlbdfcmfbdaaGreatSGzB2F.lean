/-
  Part 6 of the proof: what the machine does and what the functions answer.
  Conditions: those that each lemma names.
-/
import Derived.Test.YtihmlbdfcmfbdaaGreatSGzB2E
set_option linter.unusedSimpArgs false
set_option linter.unusedVariables false
set_option maxRecDepth 100000
namespace Gv
open Go Go.Proofs
structure Term where
 name:ByteArray
 level:Int
 assoc:Int
structure aW where
 left:Int
 right:List Int
 prec:Int
structure aw where
 az:List Term
 ax:List ByteArray
 rules:List aW
 start:Int
instance:Inhabited Term:=⟨⟨.empty,0,0⟩⟩
instance:Inhabited aW:=⟨⟨0,[],0⟩⟩
def cg (t:Term):List V:=[gs t.name,gi t.level,gi t.assoc]
def aP (r:aW):List V:=[gi r.left,encI r.right,gi r.prec]
def encS (l:List ByteArray):V:=.aL (l.map fun s=>[gs s])
def au (g:aw):List V:=[.aL (g.az.map cg),encS g.ax,.aL (g.rules.map aP),gi g.start]
theorem fD {α:Type} (l:List α) (f:α→List V) (h:∀ x∈l,∀ v∈f x,Tree v):Tree (.aL (l.map f)):=by
 refine .aL _ fun i j hi hj=>?_
 simp only[Uc] at hi
 have e:(l.map f).getD i []=f l[i]:=by simp[T0,hi]
 rw[e] at hj ⊢
 have e2:(f l[i]).getD j .any=(f l[i])[j]:=by simp[T0,hj]
 rw[e2]
 exact h _ (Ud _) _ (Ud _)
theorem cT (cs:List V) (h:∀ v∈cs,Tree v):Tree (.agg cs):=by
 refine .agg _ fun i hi=>?_
 have e2:cs.getD i .any=cs[i]:=by simp[T0,hi]
 rw[e2]; exact h _ (Ud _)
theorem yg (l:List ByteArray):Tree (encS l):=fD _ _ fun x _ v hv=>by simp at hv; subst hv; exact .val _
theorem sZ (t:Term):∀ v∈cg t,Tree v:=by intro v hv; simp[cg] at hv; rcases hv with rfl | rfl | rfl <;> exact .val _
theorem gB (r:aW):∀ v∈aP r,Tree v:=by
 intro v hv; simp[aP] at hv; rcases hv with rfl | rfl | rfl
 ·exact .val _
 ·exact fM _
 ·exact .val _
theorem dR (g:aw):∀ v∈au g,Tree v:=by
 intro v hv; simp[au] at hv; rcases hv with rfl | rfl | rfl | rfl
 ·exact fD _ _ fun x _=>sZ x
 ·exact yg _
 ·exact fD _ _ fun x _=>gB x
 ·exact .val _
def cp (x:Int):Prop:=-9223372036854775808≤x∧x≤9223372036854775807
structure aw.Ok (g:aw):Prop where
 az:aY g.az
 ax:aY g.ax
 rules:aY g.rules
 start:cp g.start
 term:∀ t∈g.az,cp t.level∧cp t.assoc
 aH:∀ r∈g.rules,cp r.left∧cp r.prec∧aY r.right∧∀ x∈r.right,cp x
def iz (g:aw) (s:Int):Bool:=if 0≤s then decide (s < g.az.length) else decide (-1 - s < g.ax.length)
def rb:SF:=⟨.seq (ao [cO 2 0,bH 4 false]) <|
 .seq (.seq (ao [aj 5 1,aQ 6 .geq 5 0]) <|
 .cond (.tmp 6) (.seq (ao [aj 7 1,aD 8 0 2,ay 9 8,aV 10 9,bg 11 .lss 7 10,aj 4 11]) <|
 .ret) (.skip)) <|
 .seq (ao [aj 12 1,((some 13),.op (.arith .sub (.val (.val (.int .i64 (-1)))) (.tmp 12))),aD 14 1 2,ay 15 14,aV 16 15,bg 17 .lss 13 16,aj 4 17]) <|
 .ret,
 [.tmp 4],18⟩
theorem vG:aU Tryz.prog 155 [2]=some rb:=by kernel_rfl
theorem RM (g:aw) (s:Int) (hs:cp s) (H:View):aC Tryz.prog 155 [.agg (au g),gi s] H fun r H'=>r=gb (iz g s)∧H'=H:=by
 refine aC.of mixed vG ?_
 obtain ⟨h1,h2⟩:=hs
 simp (disch:=omega) only [↓wr,seval,wq,ah,ag,ak,aa,ab,af,ai,ae,rb,au,encS]
 refine av.dec (fun h=>?_) (fun h=>?_)
 ·simp (disch:=omega) only [↓wr,seval,wq,ah,ag,ak,aa,ab,af,ai,ae]
  simp[iz,show (0:Int)≤s from h]
 ·simp (disch:=omega) only [↓wr,seval,wq,ah,ag,ak,aa,ab,af,ai,ae]
  simp[iz,show ¬ (0:Int)≤s from h]
theorem RR (g:aw) (s:Int) (hs:cp s):aG Tryz.prog 155 [.agg (au g),gi s] (gb (iz g s)) :=
 aG.of (by
  intro v hv; simp at hv
  rcases hv with rfl | rfl
  ·exact cT _ (dR g)
  ·exact .val _) ((RM g s hs _).mono fun r H' h h' _=>by rw[h.1]; exact .tree _ (.val _))
def oE (g:aw):Bool:=decide (40 < g.az.length) || decide (40 < g.ax.length) || decide (60 < g.rules.length) || g.rules.any fun r=>decide (20 < r.right.length)
def mQ:SC :=
 .seq (.seq (ao [aj 20 3,aD 21 2 1,ay 22 21,aV 23 22,bg 24 .lss 20 23]) <|
 .cond (.tmp 24) (.skip) (.exit 0)) <|
 .seq (.block 1 (.seq (ao [aD 27 2 1,ay 28 27,aj 29 3,aR 30 3 28 29,aD 31 1 30,ay 32 31,aV 33 32,aQ 34 .gtr 33 20]) <|
 .cond (.tmp 34) (.seq (ao [bH 2 true]) <|
 .ret) (.skip))) <|
 ao [aj 25 3,aQ 26 .add 25 1,aj 3 26]
def pa:SF:=⟨.seq (ao [cO 1 0,bH 2 false]) <|
 .seq (.seq (.region false [⟨none,[aD 4 0 1,ay 5 4,aV 6 5,aQ 7 .gtr 6 40,aj 8 7]⟩,⟨(some (8,false)),[aD 9 1 1,ay 10 9,aV 11 10,aQ 12 .gtr 11 40]⟩,⟨none,[cU 13 8 12,aj 14 13]⟩,⟨(some (14,false)),[aD 15 2 1,ay 16 15,aV 17 16,aQ 18 .gtr 17 60]⟩,⟨none,[cU 19 14 18]⟩]) <|
 .cond (.tmp 19) (.seq (ao [bH 2 true]) <|
 .ret) (.skip)) <|
 .seq (.seq (ao [bj 3 0]) <|
 .block 0 (.loop mQ)) <|
 .seq (ao [bH 2 false]) <|
 .ret,
 [.tmp 2],35⟩
theorem ux:aU Tryz.prog 16 [1]=some pa:=by kernel_rfl
theorem O8 (g:aw) (H:View):aC Tryz.prog 16 [.agg (au g)] H fun r H'=>r=gb (oE g)∧H'=H:=by
 refine aC.of mixed ux ?_
 simp (disch:=omega) only [↓wr,seval,wq,ah,ag,ak,aa,ab,af,ai,ae,pa,au,encS]
 refine av.dec (fun h1=>?_) (fun h1=>?_)
 ·simp (disch:=omega) only [↓wr,seval,wq,ah,ag,ak,aa,ab,af,ai,ae]
  simp[oE,show 40 < g.az.length by omega]
 ·simp (disch:=omega) only [↓wr,seval,wq,ah,ag,ak,aa,ab,af,ai,ae]
  refine av.dec (fun h2=>?_) (fun h2=>?_)
  ·simp (disch:=omega) only [↓wr,seval,wq,ah,ag,ak,aa,ab,af,ai,ae]
   simp[oE,show 40 < g.ax.length by omega]
  ·simp (disch:=omega) only [↓wr,seval,wq,ah,ag,ak,aa,ab,af,ai,ae]
   refine av.dec (fun h3=>?_) (fun h3=>?_)
   ·simp (disch:=omega) only [↓wr,seval,wq,ah,ag,ak,aa,ab,af,ai,ae]
    simp[oE,show 60 < g.rules.length by omega]
   ·simp (disch:=omega) only [↓wr,seval,wq,ah,ag,ak,aa,ab,af,ai,ae]
    refine bc.intro (fun k T H'=>∃ i:Nat,i+k=g.rules.length∧(∀ r∈g.rules.take i,¬ 20 < r.right.length)∧T 1=.aO (au g) 0∧T 3=gi i∧H'=H) g.rules.length ?_ ?_
    ·exact ⟨0,by omega,by simp,rfl,rfl,rfl⟩
    ·rintro k T H' ⟨i,hk,hi,e1,e3,rfl⟩
     simp (disch:=omega) only [↓wr,seval,wq,ah,ag,ak,aa,ab,af,ai,ae,mQ,e1,e3,au]
     refine av.dec (fun hc=>?_) (fun hc=>?_)
     ·have hg:g.rules[i]?=some (g.rules[i]'(by omega)):=T4 (by omega)
      simp (disch:=omega) only [↓wr,seval,wq,ah,ag,ak,aa,ab,af,ai,ae,e1,e3,au,aP,encI,T8,hg,Ue]
      refine av.dec (fun hd=>?_) (fun hd=>?_)
      ·simp (disch:=omega) only [↓wr,seval,wq,ah,ag,ak,aa,ab,af,ai,ae]
       have:g.rules.any (fun r=>decide (20 < r.right.length))=true:=by
        simp only[List.any_eq_true,Ul]
        exact ⟨g.rules[i]'(by omega),Ud _,by omega⟩
       simp[oE,this]
      ·simp (disch:=omega) only [↓wr,seval,wq,ah,ag,ak,aa,ab,af,ai,ae,e1,e3]
       refine ⟨k - 1,by omega,i+1,by omega,?_,rfl,rfl⟩
       intro r hr
       rw[Uw,hg] at hr
       simp only[Option.toList_some,Uy,UT] at hr
       rcases hr with hr | rfl
       ·exact hi r hr
       ·omega
     ·simp (disch:=omega) only [↓wr,seval,wq,ah,ag,ak,aa,ab,af,ai,ae,e1,e3]
      have e:i=g.rules.length:=by omega
      rw[Uo (by omega)] at hi
      have:g.rules.any (fun r=>decide (20 < r.right.length))=false:=by
       simp only[List.any_eq_false,Ul]; exact hi
      simp only[oE,this]
      simp; omega
def cz (l:List Int) (is:List Bool) (az:Bool):Bool:=l.all fun s=>if 0≤s then az else is.getD (-1 - s).toNat false
def oV:SC :=
 .seq (.seq (ao [aj 8 7,aj 9 0,aV 10 9,bg 11 .lss 8 10]) <|
 .cond (.tmp 11) (.skip) (.exit 0)) <|
 .seq (.block 1 (.seq (.region false [⟨none,[aj 14 0,aj 15 7,aR 16 1 14 15,ay 17 16,aQ 18 .geq 17 0,aj 19 18]⟩,⟨(some (19,true)),[aj 20 2,dp 21 20]⟩,⟨none,[eS 22 19 21,aj 23 22]⟩,⟨(some (23,false)),[aj 24 0,aj 25 7,aR 26 1 24 25,ay 27 26,aQ 28 .lss 27 0,aj 29 28]⟩,⟨(some (29,true)),[aj 30 1,aj 31 0,aj 32 7,aR 33 1 31 32,ay 34 33,((some 35),.op (.arith .sub (.val (.val (.int .i64 (-1)))) (.tmp 34))),aR 36 1 30 35,ay 37 36,dp 38 37]⟩,⟨(some (23,false)),[eS 39 29 38]⟩,⟨none,[cU 40 23 39]⟩]) <|
 .cond (.tmp 40) (.seq (ao [bH 6 false]) <|
 .ret) (.skip))) <|
 ao [aj 12 7,aQ 13 .add 12 1,aj 7 13]
def ra:SF:=⟨.seq (ao [bH 6 false]) <|
 .seq (.seq (ao [bj 7 0]) <|
 .block 0 (.loop oV)) <|
 .seq (ao [bH 6 true]) <|
 .ret,
 [.tmp 6],41⟩
theorem wz:aU Tryz.prog 117 []=some ra:=by kernel_rfl
theorem RV (l:List Int) (is:List Bool) (t:Bool) (hl:aY l) (hs:∀ s∈l,cp s∧(s < 0→-1 - s < is.length)) (H:View) :
  aC Tryz.prog 117 [encI l,bI is,gb t] H fun r H'=>r=gb (cz l is t)∧H'=H:=by
 refine aC.of mixed wz ?_
 unfold aY at hl
 simp (disch:=omega) only [↓wr,seval,wq,ah,ag,ak,aa,ab,af,ai,ae,ra]
 refine bc.intro (fun k T H'=>∃ i:Nat,i+k=l.length∧cz (l.take i) is t=true∧T 0=encI l∧T 1=bI is∧T 2=gb t∧T 7=gi i∧H'=H) l.length ?_ ?_
 ·exact ⟨0,by omega,by simp[cz],rfl,rfl,rfl,rfl,rfl⟩
 ·rintro k T H' ⟨i,hk,hi,h0,h1,h2,h7,rfl⟩
  simp (disch:=omega) only [↓wr,seval,wq,ah,ag,ak,aa,ab,af,ai,ae,oV,h0,h1,h2,h7,encI]
  refine av.dec (fun hc=>?_) (fun hc=>?_)
  ·have hg:l[i]?=some (l[i]'(by omega)):=T4 (by omega)
   have hm:l[i]'(by omega)∈l:=Ud _
   generalize l[i]'(by omega)=s at hg hm
   obtain ⟨⟨hs1,hs2⟩,hs3⟩:=hs s hm
   have hstep:cz (l.take (i+1)) is t=(if 0≤s then t else is.getD (-1 - s).toNat false):=by
    rw[Uw,hg]
    simp only[cz,Option.toList_some,List.all_append,Vg,List.all_nil,Bool.and_true] at hi ⊢
    rw[hi,Vh]
   have hfail:(if 0≤s then t else is.getD (-1 - s).toNat false)=false→cz l is t=false:=by
    intro hb
    simp only[cz,List.all_eq_false]
    exact ⟨s,hm,by simpa using hb⟩
   simp (disch:=omega) only [↓wr,seval,wq,ah,ag,ak,aa,ab,af,ai,ae,h0,h1,h2,h7,encI,T8,hg,Ue]
   refine av.dec (fun hd=>?_) (fun hd=>?_)
   ·rw[T9 (show 0≤s from hd)] at hstep hfail
    cases t with
    | true =>
     simp (disch:=omega) only [↓wr,seval,wq,ah,ag,ak,aa,ab,af,ai,ae,h0,h1,h2,h7,encI,T8,hg,Ue]
     refine av.dec (fun hn=>absurd hn (by omega)) (fun _=>?_)
     simp (disch:=omega) only [↓wr,seval,wq,ah,ag,ak,aa,ab,af,ai,ae,h0,h1,h2,h7,encI,bI,T8,hg,Ue]
     exact ⟨k - 1,by omega,i+1,by omega,hstep,rfl⟩
    | false =>
     simp (disch:=omega) only [↓wr,seval,wq,ah,ag,ak,aa,ab,af,ai,ae,h0,h1,h2,h7,encI,T8,hg,Ue]
     rw[hfail rfl]
   ·rw[T6 (show ¬ 0≤s from hd)] at hstep hfail
    simp (disch:=omega) only [↓wr,seval,wq,ah,ag,ak,aa,ab,af,ai,ae,h0,h1,h2,h7,encI,T8,hg,Ue]
    refine av.dec (fun hn=>?_) (fun hn=>absurd hn (by omega))
    have hb:is[(-1 - s).toNat]?=some (is[(-1 - s).toNat]'(by omega)):=T4 (by omega)
    have hbd:is.getD (-1 - s).toNat false=is[(-1 - s).toNat]'(by omega):=by simp[T0,hb]
    rw[hbd] at hstep hfail
    generalize is[(-1 - s).toNat]'(by omega)=b at hb hstep hfail
    simp (disch:=omega) only [↓wr,seval,wq,ah,ag,ak,aa,ab,af,ai,ae,h0,h1,h2,h7,encI,bI,T8,hg,hb,Ue]
    cases b with
    | true =>
     simp (disch:=omega) only [↓wr,seval,wq,ah,ag,ak,aa,ab,af,ai,ae,h0,h1,h2,h7,encI,bI,T8,hg,hb,Ue]
     exact ⟨k - 1,by omega,i+1,by omega,hstep,rfl⟩
    | false =>
     simp (disch:=omega) only [↓wr,seval,wq,ah,ag,ak,aa,ab,af,ai,ae,h0,h1,h2,h7,encI,bI,T8,hg,hb,Ue]
     rw[hfail rfl]
  ·simp (disch:=omega) only [↓wr,seval,wq,ah,ag,ak,aa,ab,af,ai,ae,h0,h1,h2,h7]
   have e:i=l.length:=by omega
   rw[Uo (by omega)] at hi
   rw[hi]
abbrev gy (x:Int):V:=.val (.int .u8 x)
def uY (c:Int):Bool:=(decide (97≤c) && decide (c≤122)) || (decide (65≤c) && decide (c≤90)) || c == 95
def nN (c:Int):Bool:=uY c || (decide (48≤c) && decide (c≤57)) || c == 46
def oP:SF:=⟨.seq (ao [bH 2 false]) <|
 .seq (.region false [⟨none,[aj 3 0,((some 4),.op (.arith .geq (.tmp 3) (.val (.val (.int .u8 97))))),aj 5 4]⟩,⟨(some (5,true)),[aj 6 0,((some 7),.op (.arith .leq (.tmp 6) (.val (.val (.int .u8 122)))))]⟩,⟨none,[eS 8 5 7,aj 9 8]⟩,⟨(some (9,false)),[aj 10 0,((some 11),.op (.arith .geq (.tmp 10) (.val (.val (.int .u8 65))))),aj 12 11]⟩,⟨(some (12,true)),[aj 13 0,((some 14),.op (.arith .leq (.tmp 13) (.val (.val (.int .u8 90)))))]⟩,⟨(some (9,false)),[eS 15 12 14]⟩,⟨none,[cU 16 9 15,aj 17 16]⟩,⟨(some (17,false)),[aj 18 0,((some 19),.op (.arith .eql (.tmp 18) (.val (.val (.int .u8 95)))))]⟩,⟨none,[cU 20 17 19,aj 2 20]⟩]) <|
 .ret,
 [.tmp 2],21⟩
theorem tO:aU Tryz.prog 193 []=some oP:=by kernel_rfl
def oN:SF:=⟨.seq (ao [bH 2 false]) <|
 .seq (.region false [⟨none,[aj 3 0,bD 4 193 [3],aj 5 4]⟩,⟨(some (5,false)),[aj 6 0,((some 7),.op (.arith .geq (.tmp 6) (.val (.val (.int .u8 48))))),aj 8 7]⟩,⟨(some (8,true)),[aj 9 0,((some 10),.op (.arith .leq (.tmp 9) (.val (.val (.int .u8 57)))))]⟩,⟨(some (5,false)),[eS 11 8 10]⟩,⟨none,[cU 12 5 11,aj 13 12]⟩,⟨(some (13,false)),[aj 14 0,((some 15),.op (.arith .eql (.tmp 14) (.val (.val (.int .u8 46)))))]⟩,⟨none,[cU 16 13 15,aj 2 16]⟩]) <|
 .ret,
 [.tmp 2],17⟩
theorem tX:aU Tryz.prog 194 []=some oN:=by kernel_rfl
theorem Pt (c:Int) (H:View):aC Tryz.prog 193 [gy c] H fun r H'=>r=gb (uY c)∧H'=H:=by
 refine aC.of mixed tO ?_
 repeat' (first | (refine av.dec (fun _=>?_) (fun _=>?_)) | (refine av.eq (fun _=>?_) (fun _=>?_)) | (refine av.ne (fun _=>?_) (fun _=>?_)) | (refine av.split (fun _=>?_) (fun _=>?_)) | (simp (disch:=omega) only [↓wr,seval,wq,ah,ag,ak,aa,ab,af,ai,ae,oP]))
 all_goals (congr 2; simp only[uY]; grind)
theorem FT (c:Int):aG Tryz.prog 193 [gy c] (gb (uY c)) :=
 aG.of (by intro v hv; simp at hv; subst hv; exact .val _) ((Pt c _).mono fun r H' h h' _=>by rw[h.1]; exact .tree _ (.val _))
theorem OW (c:Int) (H:View):aC Tryz.prog 194 [gy c] H fun r H'=>r=gb (nN c)∧H'=H:=by
 refine aC.of mixed tX ?_
 repeat' (first | (refine av.dec (fun _=>?_) (fun _=>?_)) | (refine av.eq (fun _=>?_) (fun _=>?_)) | (refine av.ne (fun _=>?_) (fun _=>?_)) | (refine av.split (fun _=>?_) (fun _=>?_)) | (simp (disch:=omega) only [↓wr,seval,wq,ah,ag,ak,aa,ab,af,ai,ae,oN]))
 refine aE.pure (FT c) (by kernel_rfl) ?_
 repeat' (first | (refine av.dec (fun _=>?_) (fun _=>?_)) | (refine av.eq (fun _=>?_) (fun _=>?_)) | (refine av.ne (fun _=>?_) (fun _=>?_)) | (refine av.split (fun _=>?_) (fun _=>?_)) | (simp (disch:=omega) only [↓wr,seval,wq,ah,ag,ak,aa,ab,af,ai,ae]))
 all_goals (congr 2; simp only[nN]; grind)
theorem Oz (c:Int):aG Tryz.prog 194 [gy c] (gb (nN c)) :=
 aG.of (by intro v hv; simp at hv; subst hv; exact .val _) ((OW c _).mono fun r H' h h' _=>by rw[h.1]; exact .tree _ (.val _))
def gx (l:List Int):Bool:=decide (0 < l.length) && decide (l.length≤20) && (match l with | c :: _=>uY c | []=>false) && l.all nN
def nV:SC :=
 .seq (.seq (ao [aj 18 3,aj 19 0,((some 20),.op (.pH (.tmp 19))),bg 21 .lss 18 20]) <|
 .cond (.tmp 21) (.skip) (.exit 0)) <|
 .seq (.block 1 (.seq (ao [aj 24 0,aj 25 3,((some 26),.op (.ix (.tmp 24) (.tmp 25))),bD 27 194 [26],dp 28 27]) <|
 .cond (.tmp 28) (.seq (ao [bH 2 false]) <|
 .ret) (.skip))) <|
 ao [aj 22 3,aQ 23 .add 22 1,aj 3 23]
def qm:SF:=⟨.seq (ao [bH 2 false]) <|
 .seq (.seq (.region false [⟨none,[aj 4 0,((some 5),.op (.pH (.tmp 4))),aQ 6 .eql 5 0,aj 7 6]⟩,⟨(some (7,false)),[aj 8 0,((some 9),.op (.pH (.tmp 8))),aQ 10 .gtr 9 20]⟩,⟨none,[cU 11 7 10,aj 12 11]⟩,⟨(some (12,false)),[aj 13 0,((some 14),.op (.ix (.tmp 13) (.val (.val (.int .i64 0))))),bD 15 193 [14],dp 16 15]⟩,⟨none,[cU 17 12 16]⟩]) <|
 .cond (.tmp 17) (.seq (ao [bH 2 false]) <|
 .ret) (.skip)) <|
 .seq (.seq (ao [bj 3 0]) <|
 .block 0 (.loop nV)) <|
 .seq (ao [bH 2 true]) <|
 .ret,
 [.tmp 2],29⟩
theorem uV:aU Tryz.prog 154 []=some qm:=by kernel_rfl
theorem NW (s:ByteArray) (H:View):aC Tryz.prog 154 [gs s] H fun r H'=>r=gb (gx (fp s))∧H'=H:=by
 refine aC.of mixed uV ?_
 repeat' (first | (refine av.dec (fun _=>?_) (fun _=>?_)) | (refine av.eq (fun _=>?_) (fun _=>?_)) | (refine av.ne (fun _=>?_) (fun _=>?_)) | (refine av.split (fun _=>?_) (fun _=>?_)) | (simp (disch:=omega) only [↓wr,seval,wq,ah,ag,ak,aa,ab,af,ai,ae,qm,eN]))
 ·rename_i h
  congr 2; simp[gx,show (fp s).length=0 by omega]
 ·rename_i h
  congr 2; simp[gx,show ¬ (fp s).length≤20 by omega]
 ·rename_i h1 h2
  cases hb:fp s with
  | nil=>simp[hb] at h1
  | cons c l =>
   repeat' (first | (refine av.dec (fun _=>?_) (fun _=>?_)) | (refine av.eq (fun _=>?_) (fun _=>?_)) | (refine av.ne (fun _=>?_) (fun _=>?_)) | (refine av.split (fun _=>?_) (fun _=>?_)) | (simp (disch:=omega) only [↓wr,seval,wq,ah,ag,ak,aa,ab,af,ai,ae,hb,UC,eN]))
   refine aE.pure (FT c) (by kernel_rfl) ?_
   repeat' (first | (refine av.dec (fun _=>?_) (fun _=>?_)) | (refine av.eq (fun _=>?_) (fun _=>?_)) | (refine av.ne (fun _=>?_) (fun _=>?_)) | (refine av.split (fun _=>?_) (fun _=>?_)) | (simp (disch:=omega) only [↓wr,seval,wq,ah,ag,ak,aa,ab,af,ai,ae,hb,UC,eN]))
   ·rename_i hf
    refine bc.intro (fun k T H'=>∃ i:Nat,i+k=(c :: l).length∧((c :: l).take i).all nN=true∧T 0=gs s∧T 3=gi i∧H'=H) (c :: l).length ?_ ?_
    ·exact ⟨0,by omega,by simp,rfl,rfl,rfl⟩
    ·rintro k T H' ⟨i,hk,hi,h0,h3,rfl⟩
     rw[hb] at h1 h2
     simp (disch:=omega) only [↓wr,seval,wq,ah,ag,ak,aa,ab,af,ai,ae,nV,h0,h3,eN,hb]
     refine av.dec (fun hc=>?_) (fun hc=>?_)
     ·simp only[Um] at hc hk h2
      have hg:(c :: l)[i]?=some ((c :: l)[i]'(by simp; omega)):=T4 (by simp; omega)
      have hm:(c :: l)[i]'(by simp; omega)∈c :: l:=Ud _
      generalize (c :: l)[i]'(by simp; omega)=d at hg hm
      simp (disch:=omega) only [↓wr,seval,wq,ah,ag,ak,aa,ab,af,ai,ae,h0,h3,eN,hb,hg]
      refine aE.pure (Oz d) (by kernel_rfl) ?_
      repeat' (first | (refine av.dec (fun _=>?_) (fun _=>?_)) | (refine av.eq (fun _=>?_) (fun _=>?_)) | (refine av.ne (fun _=>?_) (fun _=>?_)) | (refine av.split (fun _=>?_) (fun _=>?_)) | (simp (disch:=omega) only [↓wr,seval,wq,ah,ag,ak,aa,ab,af,ai,ae,h0,h3,eN,hb,hg]))
      ·rename_i hd
       refine ⟨k - 1,by omega,i+1,by omega,?_,rfl⟩
       rw[Uw,hg]
       simp only[Option.toList_some,List.all_append,hi,Vg,hd,List.all_nil,Bool.and_self]
      ·rename_i hd
       congr 2
       have:(c :: l).all nN=false:=by
        rw[List.all_eq_false]; exact ⟨d,hm,by simp[hd]⟩
       simp only[gx,this,Bool.and_false]
     ·simp (disch:=omega) only [↓wr,seval,wq,ah,ag,ak,aa,ab,af,ai,ae,h0,h3]
      simp only[Um] at hc hk h2
      rw[Uo (by simp; omega)] at hi
      congr 2
      simp only[gx,hi,Um]
      simp[hf]; omega
   ·rename_i hf
    congr 2; simp[gx,hf]
def mC:List Int→Bool
 | [a,b,c]=>a == 39 && c == 39 && decide (32≤b) && decide (b≤126) && b != 39 && b != 92
 | [a,b,c,d]=>a == 39 && d == 39 && b == 92 && (c == 110 || c == 116 || c == 92 || c == 39)
 | _=>false
theorem Pb {l:List Int} (h3:l.length≠3) (h4:l.length≠4):mC l=false:=by
 match l,h3,h4 with
 | [],_,_=>rfl
 | [_],_,_=>rfl
 | [_,_],_,_=>rfl
 | [_,_,_],h3,_=>exact absurd rfl h3
 | [_,_,_,_],_,h4=>exact absurd rfl h4
 | _ :: _ :: _ :: _ :: _ :: _,_,_=>rfl
theorem TE {α:Type} {l:List α} (h:l.length=3):∃ a b c,l=[a,b,c]:=by
 match l,h with
 | [a,b,c],_=>exact ⟨a,b,c,rfl⟩
theorem Tx {α:Type} {l:List α} (h:l.length=4):∃ a b c d,l=[a,b,c,d]:=by
 match l,h with
 | [a,b,c,d],_=>exact ⟨a,b,c,d,rfl⟩
def nz:SF:=⟨.seq (ao [bH 2 false]) <|
 .seq (.seq (ao [aj 3 0,((some 4),.op (.pH (.tmp 3))),aQ 5 .eql 4 3]) <|
 .cond (.tmp 5) (.seq (.region false [⟨none,[aj 6 0,((some 7),.op (.ix (.tmp 6) (.val (.val (.int .i64 0))))),((some 8),.op (.arith .eql (.tmp 7) (.val (.val (.int .u8 39))))),aj 9 8]⟩,⟨(some (9,true)),[aj 10 0,((some 11),.op (.ix (.tmp 10) (.val (.val (.int .i64 2))))),((some 12),.op (.arith .eql (.tmp 11) (.val (.val (.int .u8 39)))))]⟩,⟨none,[eS 13 9 12,aj 14 13]⟩,⟨(some (14,true)),[aj 15 0,((some 16),.op (.ix (.tmp 15) (.val (.val (.int .i64 1))))),((some 17),.op (.arith .geq (.tmp 16) (.val (.val (.int .u8 32)))))]⟩,⟨none,[eS 18 14 17,aj 19 18]⟩,⟨(some (19,true)),[aj 20 0,((some 21),.op (.ix (.tmp 20) (.val (.val (.int .i64 1))))),((some 22),.op (.arith .leq (.tmp 21) (.val (.val (.int .u8 126)))))]⟩,⟨none,[eS 23 19 22,aj 24 23]⟩,⟨(some (24,true)),[aj 25 0,((some 26),.op (.ix (.tmp 25) (.val (.val (.int .i64 1))))),((some 27),.op (.arith .neq (.tmp 26) (.val (.val (.int .u8 39)))))]⟩,⟨none,[eS 28 24 27,aj 29 28]⟩,⟨(some (29,true)),[aj 30 0,((some 31),.op (.ix (.tmp 30) (.val (.val (.int .i64 1))))),((some 32),.op (.arith .neq (.tmp 31) (.val (.val (.int .u8 92)))))]⟩,⟨none,[eS 33 29 32,aj 2 33]⟩]) <|
 .ret) (.skip)) <|
 .seq (.region false [⟨none,[aj 34 0,((some 35),.op (.pH (.tmp 34))),aQ 36 .eql 35 4,aj 37 36]⟩,⟨(some (37,true)),[aj 38 0,((some 39),.op (.ix (.tmp 38) (.val (.val (.int .i64 0))))),((some 40),.op (.arith .eql (.tmp 39) (.val (.val (.int .u8 39)))))]⟩,⟨none,[eS 41 37 40,aj 42 41]⟩,⟨(some (42,true)),[aj 43 0,((some 44),.op (.ix (.tmp 43) (.val (.val (.int .i64 3))))),((some 45),.op (.arith .eql (.tmp 44) (.val (.val (.int .u8 39)))))]⟩,⟨none,[eS 46 42 45,aj 47 46]⟩,⟨(some (47,true)),[aj 48 0,((some 49),.op (.ix (.tmp 48) (.val (.val (.int .i64 1))))),((some 50),.op (.arith .eql (.tmp 49) (.val (.val (.int .u8 92)))))]⟩,⟨none,[eS 51 47 50,aj 52 51]⟩,⟨(some (52,true)),[aj 53 0,((some 54),.op (.ix (.tmp 53) (.val (.val (.int .i64 2))))),((some 55),.op (.arith .eql (.tmp 54) (.val (.val (.int .u8 110))))),aj 56 55]⟩,⟨(some (56,false)),[aj 57 0,((some 58),.op (.ix (.tmp 57) (.val (.val (.int .i64 2))))),((some 59),.op (.arith .eql (.tmp 58) (.val (.val (.int .u8 116)))))]⟩,⟨(some (52,true)),[cU 60 56 59,aj 61 60]⟩,⟨(some (61,false)),[aj 62 0,((some 63),.op (.ix (.tmp 62) (.val (.val (.int .i64 2))))),((some 64),.op (.arith .eql (.tmp 63) (.val (.val (.int .u8 92)))))]⟩,⟨(some (52,true)),[cU 65 61 64,aj 66 65]⟩,⟨(some (66,false)),[aj 67 0,((some 68),.op (.ix (.tmp 67) (.val (.val (.int .i64 2))))),((some 69),.op (.arith .eql (.tmp 68) (.val (.val (.int .u8 39)))))]⟩,⟨(some (52,true)),[cU 70 66 69]⟩,⟨none,[eS 71 52 70,aj 2 71]⟩]) <|
 .ret,
 [.tmp 2],72⟩
theorem sJ:aU Tryz.prog 192 []=some nz:=by kernel_rfl
def oT:SF:=⟨.seq (ao [bH 2 false]) <|
 .seq (.region false [⟨none,[aj 3 0,bD 4 154 [3],aj 5 4]⟩,⟨(some (5,false)),[aj 6 0,bD 7 192 [6]]⟩,⟨none,[cU 8 5 7,aj 2 8]⟩]) <|
 .ret,
 [.tmp 2],9⟩
theorem tZ:aU Tryz.prog 151 []=some oT:=by kernel_rfl
set_option maxHeartbeats 1000000 in
theorem ON (s:ByteArray) (H:View):aC Tryz.prog 192 [gs s] H fun r H'=>r=gb (mC (fp s))∧H'=H:=by
 refine aC.of mixed sJ ?_
 simp (disch:=omega) only [↓wr,seval,wq,ah,ag,ak,aa,ab,af,ai,ae,nz,eN]
 refine av.eq (fun h=>?_) (fun h=>?_)
 ·obtain ⟨a,b,c,hb⟩:=TE (l:=fp s) (by omega)
  repeat' (first | (refine av.dec (fun _=>?_) (fun _=>?_)) | (refine av.eq (fun _=>?_) (fun _=>?_)) | (refine av.ne (fun _=>?_) (fun _=>?_)) | (refine av.split (fun _=>?_) (fun _=>?_)) | (simp (disch:=omega) only [↓wr,seval,wq,ah,ag,ak,aa,ab,af,ai,ae,hb,UC,UP]))
  all_goals (congr 2; simp only[mC]; grind)
 ·simp (disch:=omega) only [↓wr,seval,wq,ah,ag,ak,aa,ab,af,ai,ae,eN]
  refine av.eq (fun h4=>?_) (fun h4=>?_)
  ·obtain ⟨a,b,c,d,hb⟩:=Tx (l:=fp s) (by omega)
   repeat' (first | (refine av.dec (fun _=>?_) (fun _=>?_)) | (refine av.eq (fun _=>?_) (fun _=>?_)) | (refine av.ne (fun _=>?_) (fun _=>?_)) | (refine av.split (fun _=>?_) (fun _=>?_)) | (simp (disch:=omega) only [↓wr,seval,wq,ah,ag,ak,aa,ab,af,ai,ae,hb,UC,UP]))
   all_goals (congr 2; simp only[mC]; grind)
  ·repeat' (first | (refine av.dec (fun _=>?_) (fun _=>?_)) | (refine av.eq (fun _=>?_) (fun _=>?_)) | (refine av.ne (fun _=>?_) (fun _=>?_)) | (refine av.split (fun _=>?_) (fun _=>?_)) | (simp (disch:=omega) only [↓wr,seval,wq,ah,ag,ak,aa,ab,af,ai,ae,eN]))
   rw[Pb (by omega) (by omega)]
theorem pz (s:ByteArray):∀ v∈[gs s],Tree v:=by intro v hv; simp at hv; subst hv; exact .val _
theorem Eh (s:ByteArray):aG Tryz.prog 154 [gs s] (gb (gx (fp s))) :=
 aG.of (pz s) ((NW s _).mono fun r H' h h' _=>by rw[h.1]; exact .tree _ (.val _))
theorem OQ (s:ByteArray):aG Tryz.prog 192 [gs s] (gb (mC (fp s))) :=
 aG.of (pz s) ((ON s _).mono fun r H' h h' _=>by rw[h.1]; exact .tree _ (.val _))
def qL (l:List Int):Bool:=gx l || mC l
theorem Kx (s:ByteArray) (H:View):aC Tryz.prog 151 [gs s] H fun r H'=>r=gb (qL (fp s))∧H'=H:=by
 refine aC.of mixed tZ ?_
 simp (disch:=omega) only [↓wr,seval,wq,ah,ag,ak,aa,ab,af,ai,ae,oT]
 refine aE.pure (Eh s) (by kernel_rfl) ?_
 repeat' (first | (refine av.dec (fun _=>?_) (fun _=>?_)) | (refine av.eq (fun _=>?_) (fun _=>?_)) | (refine av.ne (fun _=>?_) (fun _=>?_)) | (refine av.split (fun _=>?_) (fun _=>?_)) | (simp (disch:=omega) only [↓wr,seval,wq,ah,ag,ak,aa,ab,af,ai,ae]))
 ·rename_i h; simp[qL,h]
 ·rename_i h
  refine aE.pure (OQ s) (by kernel_rfl) ?_
  repeat' (first | (refine av.dec (fun _=>?_) (fun _=>?_)) | (refine av.eq (fun _=>?_) (fun _=>?_)) | (refine av.ne (fun _=>?_) (fun _=>?_)) | (refine av.split (fun _=>?_) (fun _=>?_)) | (simp (disch:=omega) only [↓wr,seval,wq,ah,ag,ak,aa,ab,af,ai,ae]))
  simp[qL,h]
theorem K6 (s:ByteArray):aG Tryz.prog 151 [gs s] (gb (qL (fp s))) :=
 aG.of (pz s) ((Kx s _).mono fun r H' h h' _=>by rw[h.1]; exact .tree _ (.val _))
def nP (s:ByteArray):List ByteArray→Int→Int
 | [],_=>-1
 | x :: l,i=>if iP x s=true then i else nP s l (i+1)
def ml (g:aw) (s:ByteArray):Int:=nP s (g.az.map Term.name) 0
def yO (g:aw) (s:ByteArray):Int:=nP s g.ax 0
theorem eM {α:Type} {l:List α} {i:Nat} (h:i < l.length):l.drop i=l[i] :: l.drop (i+1):=UO h
theorem Gx (g:aw) (s:ByteArray):∀ v∈[V.agg (au g),gs s],Tree v:=by
 intro v hv; simp at hv
 rcases hv with rfl | rfl
 ·exact cT _ (dR g)
 ·exact .val _
theorem ef (g:aw):∀ v∈[V.agg (au g)],Tree v:=by intro v hv; simp at hv; subst hv; exact cT _ (dR g)
theorem Hl (g:aw) (x:Int):∀ v∈[V.agg (au g),gi x],Tree v:=by
 intro v hv; simp at hv
 rcases hv with rfl | rfl
 ·exact cT _ (dR g)
 ·exact .val _
theorem aG.val {P:Program} {f:FuncId} {vs:List V} {x:Value} (ht:∀ v∈vs,Tree v) (h:∀ H,aC P f vs H fun r _=>r=.val x):aG P f vs (.val x) :=
 aG.of ht ((h _).mono fun r H' e h' _=>by rw[e]; exact .tree _ (.val _))
def oD:SC :=
 .seq (.seq (ao [aj 6 5,aD 7 0 2,ay 8 7,aV 9 8,bg 10 .lss 6 9]) <|
 .cond (.tmp 10) (.skip) (.exit 0)) <|
 .seq (.block 1 (.seq (ao [aD 13 0 2,ay 14 13,aj 15 5,aR 16 3 14 15,aD 17 0 16,ay 18 17,aj 19 1,((some 20),.op (.xk .eql (.tmp 18) (.tmp 19)))]) <|
 .cond (.tmp 20) (.seq (ao [aj 21 5,aj 4 21]) <|
 .ret) (.skip))) <|
 ao [aj 11 5,aQ 12 .add 11 1,aj 5 12]
def qo:SF:=⟨.seq (ao [cO 2 0,bj 4 0]) <|
 .seq (.seq (ao [bj 5 0]) <|
 .block 0 (.loop oD)) <|
 .seq (ao [bj 4 (-1)]) <|
 .ret,
 [.tmp 4],22⟩
theorem vt:aU Tryz.prog 152 [2]=some qo:=by kernel_rfl
def oJ:SC :=
 .seq (.seq (ao [aj 6 5,aD 7 1 2,ay 8 7,aV 9 8,bg 10 .lss 6 9]) <|
 .cond (.tmp 10) (.skip) (.exit 0)) <|
 .seq (.block 1 (.seq (ao [aD 13 1 2,ay 14 13,aj 15 5,aR 16 1 14 15,ay 17 16,aj 18 1,((some 19),.op (.xk .eql (.tmp 17) (.tmp 18)))]) <|
 .cond (.tmp 19) (.seq (ao [aj 20 5,aj 4 20]) <|
 .ret) (.skip))) <|
 ao [aj 11 5,aQ 12 .add 11 1,aj 5 12]
def rh:SF:=⟨.seq (ao [cO 2 0,bj 4 0]) <|
 .seq (.seq (ao [bj 5 0]) <|
 .block 0 (.loop oJ)) <|
 .seq (ao [bj 4 (-1)]) <|
 .ret,
 [.tmp 4],21⟩
theorem wN:aU Tryz.prog 139 [2]=some rh:=by kernel_rfl
def mJ:SC :=
 .seq (.seq (ao [aj 8 6,aD 9 0 2,ay 10 9,aV 11 10,bg 12 .lss 8 11]) <|
 .cond (.tmp 12) (.skip) (.exit 0)) <|
 .seq (.block 1 (.seq (.region false [⟨none,[aD 15 0 2,ay 16 15,aj 17 6,aR 18 3 16 17,bp 19 3 18,((some 7),.op (.alloc [(.val (.string ⟨#[]⟩)),(.val (.int .i64 0)),(.val (.int .i64 0))])),(none,.op (.store 3 (.tmp 7) (.tmp 19)))]⟩]) <|
 .seq (.seq (ao [aD 20 1 7,ay 21 20,aj 22 1,bg 23 .neq 21 22]) <|
 .cond (.tmp 23) (.exit 1) (.skip)) <|
 .seq (.seq (.region false [⟨none,[aj 24 5,aQ 25 .neq 24 0,aj 26 25]⟩,⟨(some (26,true)),[aj 27 5,aD 28 2 7,ay 29 28,bg 30 .neq 27 29]⟩,⟨none,[eS 31 26 30]⟩]) <|
 .cond (.tmp 31) (.seq (ao [bH 4 false]) <|
 .ret) (.skip)) <|
 ao [aD 32 2 7,ay 33 32,aj 5 33])) <|
 ao [aj 13 6,aQ 14 .add 13 1,aj 6 14]
def pg:SF:=⟨.seq (ao [cO 2 0,bH 4 false]) <|
 .seq (ao [bj 5 0]) <|
 .seq (.seq (ao [bj 6 0]) <|
 .block 0 (.loop mJ)) <|
 .seq (ao [aj 34 5,aQ 35 .neq 34 0,aj 4 35]) <|
 .ret,
 [.tmp 4],36⟩
theorem ug:aU Tryz.prog 153 [2]=some pg:=by kernel_rfl
theorem Lz (g:aw) (hg:g.Ok) (s:ByteArray) (H:View):aC Tryz.prog 152 [.agg (au g),gs s] H fun r _=>r=gi (ml g s):=by
 refine aC.of mixed vt ?_
 have hs:g.az.length < 4611686018427387904:=hg.az
 simp (disch:=omega) only [↓wr,seval,wq,ah,ag,ak,aa,ab,af,ai,ae,qo,au,encS]
 refine bc.intro (fun k T _=>∃ i:Nat,i+k=g.az.length∧nP s ((g.az.drop i).map Term.name) i=ml g s∧T 1=gs s∧T 2=.aO (au g) 0∧T 5=gi i) g.az.length ?_ ?_
 ·exact ⟨0,by omega,rfl,rfl,rfl,rfl⟩
 ·rintro k T H' ⟨i,hk,hi,h1,h2,h5⟩
  simp (disch:=omega) only [↓wr,seval,wq,ah,ag,ak,aa,ab,af,ai,ae,oD,h1,h2,h5,au]
  refine av.dec (fun hc=>?_) (fun hc=>?_)
  ·have hg2:g.az[i]?=some (g.az[i]'(by omega)):=T4 (by omega)
   rw[eM (show i < g.az.length by omega)] at hi
   generalize g.az[i]'(by omega)=t at hg2 hi
   simp only[Uz,nP] at hi
   simp (disch:=omega) only [↓wr,seval,wq,ah,ag,ak,aa,ab,af,ai,ae,h1,h2,h5,au,cg,T8,hg2,Ue]
   refine av.split (fun hd=>?_) (fun hd=>?_)
   ·rw[T9 hd] at hi
    simp (disch:=omega) only [↓wr,seval,wq,ah,ag,ak,aa,ab,af,ai,ae,h1,h2,h5]
    rw[hi]
   ·rw[hd,T6 (by simp)] at hi
    simp (disch:=omega) only [↓wr,seval,wq,ah,ag,ak,aa,ab,af,ai,ae,h1,h2,h5]
    exact ⟨k - 1,by omega,i+1,by omega,by push_cast; exact hi,rfl,rfl⟩
  ·rw[UB (by omega)] at hi
   simp only[VD,nP] at hi
   simp (disch:=omega) only [↓wr,seval,wq,ah,ag,ak,aa,ab,af,ai,ae,h1,h2,h5]
   rw[hi]
theorem DE (g:aw) (hg:g.Ok) (s:ByteArray):aG Tryz.prog 152 [.agg (au g),gs s] (gi (ml g s)):=aG.val (Gx g s) (Lz g hg s)
theorem P0 (g:aw) (hg:g.Ok) (s:ByteArray) (H:View):aC Tryz.prog 139 [.agg (au g),gs s] H fun r _=>r=gi (yO g s):=by
 refine aC.of mixed wN ?_
 have hs:g.ax.length < 4611686018427387904:=hg.ax
 simp (disch:=omega) only [↓wr,seval,wq,ah,ag,ak,aa,ab,af,ai,ae,rh,au,encS]
 refine bc.intro (fun k T _=>∃ i:Nat,i+k=g.ax.length∧nP s (g.ax.drop i) i=yO g s∧T 1=gs s∧T 2=.aO (au g) 0∧T 5=gi i) g.ax.length ?_ ?_
 ·exact ⟨0,by omega,rfl,rfl,rfl,rfl⟩
 ·rintro k T H' ⟨i,hk,hi,h1,h2,h5⟩
  simp (disch:=omega) only [↓wr,seval,wq,ah,ag,ak,aa,ab,af,ai,ae,oJ,h1,h2,h5,au,encS]
  refine av.dec (fun hc=>?_) (fun hc=>?_)
  ·have hg2:g.ax[i]?=some (g.ax[i]'(by omega)):=T4 (by omega)
   rw[eM (show i < g.ax.length by omega)] at hi
   generalize g.ax[i]'(by omega)=t at hg2 hi
   simp only[Uz,nP] at hi
   simp (disch:=omega) only [↓wr,seval,wq,ah,ag,ak,aa,ab,af,ai,ae,h1,h2,h5,au,encS,T8,hg2,Ue]
   refine av.split (fun hd=>?_) (fun hd=>?_)
   ·rw[T9 hd] at hi
    simp (disch:=omega) only [↓wr,seval,wq,ah,ag,ak,aa,ab,af,ai,ae,h1,h2,h5]
    rw[hi]
   ·rw[hd,T6 (by simp)] at hi
    simp (disch:=omega) only [↓wr,seval,wq,ah,ag,ak,aa,ab,af,ai,ae,h1,h2,h5]
    exact ⟨k - 1,by omega,i+1,by omega,by push_cast; exact hi,rfl,rfl⟩
  ·rw[UB (by omega)] at hi
   simp only[VD,nP] at hi
   simp (disch:=omega) only [↓wr,seval,wq,ah,ag,ak,aa,ab,af,ai,ae,h1,h2,h5]
   rw[hi]
theorem Ot (g:aw) (hg:g.Ok) (s:ByteArray):aG Tryz.prog 139 [.agg (au g),gs s] (gi (yO g s)):=aG.val (Gx g s) (P0 g hg s)
def jg (n:Int):List Term→Int→Option Int
 | [],way=>some way
 | t :: r,way=>if t.level=n then (if way≠0∧way≠t.assoc then none else jg n r t.assoc) else jg n r way
def gT (l:List Term) (n:Int):Bool:=match jg n l 0 with
 | some w=>w != 0
 | none=>false
theorem Ls (g:aw) (hg:g.Ok) (n:Int) (H:View):aC Tryz.prog 153 [.agg (au g),gi n] H fun r _=>r=gb (gT g.az n):=by
 refine aC.of mixed ug ?_
 have hs:g.az.length < 4611686018427387904:=hg.az
 simp (disch:=omega) only [↓wr,seval,wq,ah,ag,ak,aa,ab,af,ai,ae,pg,au,encS]
 refine bc.intro (fun k T _=>∃ (i:Nat) (w:Int),i+k=g.az.length∧jg n (g.az.drop i) w=jg n g.az 0∧T 1=gi n∧T 2=.aO (au g) 0∧T 5=gi w∧T 6=gi i) g.az.length ?_ ?_
 ·exact ⟨0,0,by omega,rfl,rfl,rfl,rfl,rfl⟩
 ·rintro k T H' ⟨i,w,hk,hi,h1,h2,h5,h6⟩
  simp (disch:=omega) only [↓wr,seval,wq,ah,ag,ak,aa,ab,af,ai,ae,mJ,h1,h2,h5,h6,au]
  refine av.dec (fun hc=>?_) (fun hc=>?_)
  ·have hg2:g.az[i]?=some (g.az[i]'(by omega)):=T4 (by omega)
   rw[eM (show i < g.az.length by omega)] at hi
   generalize g.az[i]'(by omega)=t at hg2 hi
   simp only[jg] at hi
   simp (disch:=omega) only [↓wr,seval,wq,ah,ag,ak,aa,ab,af,ai,ae,h1,h2,h5,h6,au,cg,T8,hg2,Ue]
   intro m hm
   try simp (disch:=omega) only [↓wr,seval,wq,ah,ag,ak,aa,ab,af,ai,ae,h1,h2,h5,h6]
   refine av.ne (fun hd=>?_) (fun hd=>?_)
   ·rw[T6 hd] at hi
    simp (disch:=omega) only [↓wr,seval,wq,ah,ag,ak,aa,ab,af,ai,ae,h1,h2,h5,h6]
    exact ⟨k - 1,by omega,i+1,w,by omega,hi,by first | rfl | exact ⟨rfl,rfl⟩ | exact ⟨rfl,rfl,rfl⟩⟩
   ·rw[T9 hd] at hi
    repeat' (first | (refine av.dec (fun _=>?_) (fun _=>?_)) | (refine av.eq (fun _=>?_) (fun _=>?_)) | (refine av.ne (fun _=>?_) (fun _=>?_)) | (refine av.split (fun _=>?_) (fun _=>?_)) | (simp (disch:=omega) only [↓wr,seval,wq,ah,ag,ak,aa,ab,af,ai,ae,h1,h2,h5,h6]))
    ·rename_i a b
     rw[T9 ⟨a,b⟩] at hi
     simp only[gT,← hi]
    ·rename_i a b
     rw[T6 (fun e=>e.2 b)] at hi
     exact ⟨k - 1,by omega,i+1,_,by omega,hi,by first | rfl | exact ⟨rfl,rfl⟩ | exact ⟨rfl,rfl,rfl⟩⟩
    ·rename_i a
     rw[T6 (fun e=>e.1 a)] at hi
     exact ⟨k - 1,by omega,i+1,_,by omega,hi,by first | rfl | exact ⟨rfl,rfl⟩ | exact ⟨rfl,rfl,rfl⟩⟩
  ·rw[UB (by omega)] at hi
   simp only[jg] at hi
   simp (disch:=omega) only [↓wr,seval,wq,ah,ag,ak,aa,ab,af,ai,ae,h1,h2,h5,h6]
   simp only[gT,← hi]
theorem KF (g:aw) (hg:g.Ok) (n:Int):aG Tryz.prog 153 [.agg (au g),gi n] (gb (gT g.az n)):=aG.val (Hl g n) (Ls g hg n)
def rD (g:aw) (t:Term):Bool:=(List.range t.level.toNat).all fun k=>gT g.az ((k:Int)+1)
def kc (g:aw) (i:Int) (t:Term):Bool :=
 qL (fp t.name) && (ml g t.name == i) && decide (0≤t.level) && decide (t.level≤24) && decide (0≤t.assoc) && decide (t.assoc≤3) && ((t.level == 0) == (t.assoc == 0)) && rD g t
def jK (g:aw):List Term→Int→Bool
 | [],_=>true
 | t :: r,i=>kc g i t && jK g r (i+1)
def jR (g:aw):Bool:=decide (g.az.length≤24) && jK g g.az 0
def mL:SC :=
 .seq (.seq (ao [aj 63 5,aD 64 1 4,ay 65 64,bg 66 .leq 63 65]) <|
 .cond (.tmp 66) (.skip) (.exit 2)) <|
 .seq (.block 3 (.seq (ao [bp 69 4 1,aj 70 5,bD 71 153 [69,70],dp 72 71]) <|
 .cond (.tmp 72) (.seq (ao [bH 2 false]) <|
 .ret) (.skip))) <|
 ao [aj 67 5,aQ 68 .add 67 1,aj 5 68]
def ng:SC :=
 .seq (.seq (ao [aj 10 3,aD 11 0 1,ay 12 11,aV 13 12,bg 14 .lss 10 13]) <|
 .cond (.tmp 14) (.skip) (.exit 0)) <|
 .seq (.block 1 (.seq (.region false [⟨none,[aD 17 0 1,ay 18 17,aj 19 3,aR 20 3 18 19,bp 21 3 20,((some 4),.op (.alloc [(.val (.string ⟨#[]⟩)),(.val (.int .i64 0)),(.val (.int .i64 0))])),(none,.op (.store 3 (.tmp 4) (.tmp 21)))]⟩]) <|
 .seq (.seq (.region false [⟨none,[aD 22 0 4,ay 23 22,bD 24 151 [23],dp 25 24,aj 26 25]⟩,⟨(some (26,false)),[bp 27 4 1,aD 28 0 4,ay 29 28,bD 30 152 [27,29],aj 31 3,bg 32 .neq 30 31]⟩,⟨none,[cU 33 26 32,aj 34 33]⟩,⟨(some (34,false)),[aD 35 1 4,ay 36 35,aQ 37 .lss 36 0]⟩,⟨none,[cU 38 34 37,aj 39 38]⟩,⟨(some (39,false)),[aD 40 1 4,ay 41 40,aQ 42 .gtr 41 24]⟩,⟨none,[cU 43 39 42,aj 44 43]⟩,⟨(some (44,false)),[aD 45 2 4,ay 46 45,aQ 47 .lss 46 0]⟩,⟨none,[cU 48 44 47,aj 49 48]⟩,⟨(some (49,false)),[aD 50 2 4,ay 51 50,aQ 52 .gtr 51 3]⟩,⟨none,[cU 53 49 52,aj 54 53]⟩,⟨(some (54,false)),[aD 55 1 4,ay 56 55,aQ 57 .eql 56 0,aD 58 2 4,ay 59 58,aQ 60 .eql 59 0,((some 61),.op (.beq false (.tmp 57) (.tmp 60)))]⟩,⟨none,[cU 62 54 61]⟩]) <|
 .cond (.tmp 62) (.seq (ao [bH 2 false]) <|
 .ret) (.skip)) <|
 .seq (ao [bj 5 1]) <|
 .block 2 (.loop mL))) <|
 ao [aj 15 3,aQ 16 .add 15 1,aj 3 16]
def ph:SF:=⟨.seq (ao [cO 1 0,bH 2 false]) <|
 .seq (.seq (ao [aD 6 0 1,ay 7 6,aV 8 7,aQ 9 .gtr 8 24]) <|
 .cond (.tmp 9) (.seq (ao [bH 2 false]) <|
 .ret) (.skip)) <|
 .seq (.seq (ao [bj 3 0]) <|
 .block 0 (.loop ng)) <|
 .seq (ao [bH 2 true]) <|
 .ret,
 [.tmp 2],73⟩
theorem tR:aU Tryz.prog 104 [1]=some ph:=by kernel_rfl
def nD:SC :=
 .seq (.seq (ao [aj 14 3,aD 15 1 1,ay 16 15,aV 17 16,bg 18 .lss 14 17]) <|
 .cond (.tmp 18) (.skip) (.exit 0)) <|
 .seq (.block 1 (.seq (.region false [⟨none,[aD 21 1 1,ay 22 21,aj 23 3,aR 24 1 22 23,ay 25 24,bD 26 154 [25],dp 27 26,aj 28 27]⟩,⟨(some (28,false)),[bp 29 4 1,aD 30 1 1,ay 31 30,aj 32 3,aR 33 1 31 32,ay 34 33,bD 35 139 [29,34],aj 36 3,bg 37 .neq 35 36]⟩,⟨none,[cU 38 28 37,aj 39 38]⟩,⟨(some (39,false)),[bp 40 4 1,aD 41 1 1,ay 42 41,aj 43 3,aR 44 1 42 43,ay 45 44,bD 46 152 [40,45],aQ 47 .geq 46 0]⟩,⟨none,[cU 48 39 47]⟩]) <|
 .cond (.tmp 48) (.seq (ao [bH 2 false]) <|
 .ret) (.skip))) <|
 ao [aj 19 3,aQ 20 .add 19 1,aj 3 20]
def qt:SF:=⟨.seq (ao [cO 1 0,bH 2 false]) <|
 .seq (.seq (.region false [⟨none,[aD 4 1 1,ay 5 4,aV 6 5,aQ 7 .lss 6 1,aj 8 7]⟩,⟨(some (8,false)),[aD 9 1 1,ay 10 9,aV 11 10,aQ 12 .gtr 11 16]⟩,⟨none,[cU 13 8 12]⟩]) <|
 .cond (.tmp 13) (.seq (ao [bH 2 false]) <|
 .ret) (.skip)) <|
 .seq (.seq (ao [bj 3 0]) <|
 .block 0 (.loop nD)) <|
 .seq (ao [bH 2 true]) <|
 .ret,
 [.tmp 2],49⟩
theorem vo:aU Tryz.prog 105 [1]=some qt:=by kernel_rfl
def oh:SC :=
 .seq (.seq (ao [aj 23 5,aD 24 1 3,ay 25 24,aV 26 25,bg 27 .lss 23 26]) <|
 .cond (.tmp 27) (.skip) (.exit 0)) <|
 .seq (.block 1 (.seq (.region false [⟨none,[bp 30 4 2,aD 31 1 3,ay 32 31,aj 33 5,aR 34 1 32 33,ay 35 34,bD 36 155 [30,35],dp 37 36,aj 38 37]⟩,⟨(some (38,false)),[aD 39 1 3,ay 40 39,aj 41 5,aR 42 1 40 41,ay 43 42,aQ 44 .geq 43 0,aj 45 44]⟩,⟨(some (45,true)),[aD 46 2 3,ay 47 46,aQ 48 .eql 47 (-1)]⟩,⟨(some (38,false)),[eS 49 45 48]⟩,⟨none,[cU 50 38 49]⟩]) <|
 .cond (.tmp 50) (.seq (ao [bH 4 false]) <|
 .ret) (.skip))) <|
 ao [aj 28 5,aQ 29 .add 28 1,aj 5 29]
def qG:SF:=⟨.seq (ao [cO 2 0,cO 3 1,bH 4 false]) <|
 .seq (.seq (.region false [⟨none,[aD 6 1 3,ay 7 6,aV 8 7,aQ 9 .gtr 8 6,aj 10 9]⟩,⟨(some (10,false)),[aD 11 2 3,ay 12 11,aQ 13 .lss 12 (-1)]⟩,⟨none,[cU 14 10 13,aj 15 14]⟩,⟨(some (15,false)),[aD 16 2 3,ay 17 16,aD 18 0 2,ay 19 18,aV 20 19,bg 21 .geq 17 20]⟩,⟨none,[cU 22 15 21]⟩]) <|
 .cond (.tmp 22) (.seq (ao [bH 4 false]) <|
 .ret) (.skip)) <|
 .seq (.seq (ao [bj 5 0]) <|
 .block 0 (.loop oh)) <|
 .seq (ao [bH 4 true]) <|
 .ret,
 [.tmp 4],51⟩
theorem uH:aU Tryz.prog 106 [2,3]=some qG:=by kernel_rfl
def mT:SC :=
 .seq (.seq (ao [aj 39 4,aD 40 2 1,ay 41 40,aV 42 41,bg 43 .lss 39 42]) <|
 .cond (.tmp 43) (.skip) (.exit 0)) <|
 .seq (.block 1 (.seq (ao [aD 46 2 1,ay 47 46,aj 48 4,aR 49 3 47 48,bp 50 3 49,((some 5),.op (.alloc [(.val (.int .i64 0)),(.emp 1),(.val (.int .i64 0))])),(none,.op (.store 3 (.tmp 5) (.tmp 50)))]) <|
 .seq (.seq (.region false [⟨none,[aD 51 0 5,ay 52 51,aQ 53 .lss 52 0,aj 54 53]⟩,⟨(some (54,false)),[aD 55 0 5,ay 56 55,aj 57 3,aQ 58 .add 57 1,bg 59 .gtr 56 58]⟩,⟨none,[cU 60 54 59,aj 61 60]⟩,⟨(some (61,false)),[bp 62 4 1,bp 63 3 5,bD 64 106 [62,63],dp 65 64]⟩,⟨none,[cU 66 61 65]⟩]) <|
 .cond (.tmp 66) (.seq (ao [bH 2 false]) <|
 .ret) (.skip)) <|
 .seq (ao [aD 67 0 5,ay 68 67,aj 69 3,bg 70 .gtr 68 69]) <|
 .cond (.tmp 70) (ao [aD 71 0 5,ay 72 71,aj 3 72]) (.skip))) <|
 ao [aj 44 4,aQ 45 .add 44 1,aj 4 45]
def pk:SF:=⟨.seq (ao [cO 1 0,bH 2 false]) <|
 .seq (.seq (.region false [⟨none,[bp 6 4 1,bD 7 104 [6],dp 8 7,aj 9 8]⟩,⟨(some (9,false)),[bp 10 4 1,bD 11 105 [10],dp 12 11]⟩,⟨none,[cU 13 9 12,aj 14 13]⟩,⟨(some (14,false)),[aD 15 2 1,ay 16 15,aV 17 16,aQ 18 .lss 17 1]⟩,⟨none,[cU 19 14 18,aj 20 19]⟩,⟨(some (20,false)),[aD 21 2 1,ay 22 21,aV 23 22,aQ 24 .gtr 23 40]⟩,⟨none,[cU 25 20 24,aj 26 25]⟩,⟨(some (26,false)),[aD 27 3 1,ay 28 27,aQ 29 .lss 28 0]⟩,⟨none,[cU 30 26 29,aj 31 30]⟩,⟨(some (31,false)),[aD 32 3 1,ay 33 32,aD 34 1 1,ay 35 34,aV 36 35,bg 37 .geq 33 36]⟩,⟨none,[cU 38 31 37]⟩]) <|
 .cond (.tmp 38) (.seq (ao [bH 2 false]) <|
 .ret) (.skip)) <|
 .seq (ao [bj 3 (-1)]) <|
 .seq (.seq (ao [bj 4 0]) <|
 .block 0 (.loop mT)) <|
 .seq (ao [aj 73 3,aD 74 1 1,ay 75 74,aV 76 75,aQ 77 .sub 76 1,bg 78 .eql 73 77,aj 2 78]) <|
 .ret,
 [.tmp 2],79⟩
theorem uv:aU Tryz.prog 54 [1]=some pk:=by kernel_rfl
set_option maxHeartbeats 2000000 in
theorem La (g:aw) (hg:g.Ok) (H:View):aC Tryz.prog 104 [.agg (au g)] H fun r _=>r=gb (jR g):=by
 refine aC.of mixed tR ?_
 simp (disch:=omega) only [↓wr,seval,wq,ah,ag,ak,aa,ab,af,ai,ae,ph,au,encS]
 refine av.dec (fun h=>?_) (fun h=>?_)
 ·simp (disch:=omega) only [↓wr,seval,wq,ah,ag,ak,aa,ab,af,ai,ae]
  simp[jR,show ¬ g.az.length≤24 by omega]
 ·have hle:g.az.length≤24:=by omega
  simp (disch:=omega) only [↓wr,seval,wq,ah,ag,ak,aa,ab,af,ai,ae]
  refine bc.intro (fun k T _=>∃ i:Nat,i+k=g.az.length∧jK g (g.az.drop i) i=jK g g.az 0∧T 1=.aO (au g) 0∧T 3=gi i) g.az.length ?_ ?_
  ·exact ⟨0,by omega,rfl,rfl,rfl⟩
  ·rintro k T H' ⟨i,hk,hi,h1,h3⟩
   simp (disch:=omega) only [↓wr,seval,wq,ah,ag,ak,aa,ab,af,ai,ae,ng,h1,h3,au]
   refine av.dec (fun hc=>?_) (fun hc=>?_)
   ·have hg2:g.az[i]?=some (g.az[i]'(by omega)):=T4 (by omega)
    rw[eM (show i < g.az.length by omega)] at hi
    have hmem:g.az[i]'(by omega)∈g.az:=Ud _
    generalize g.az[i]'(by omega)=t at hg2 hi hmem
    obtain ⟨⟨hl1,hl2⟩,⟨ha1,ha2⟩⟩:=hg.term t hmem
    simp only[jK] at hi
    have hbad:kc g i t=false→gb false=gb (jR g):=fun e=>by rw[e,VA] at hi; simp[jR,← hi]
    simp (disch:=omega) only [↓wr,seval,wq,ah,ag,ak,aa,ab,af,ai,ae,h1,h3,au,cg,T8,hg2,Ue]
    intro m hm
    try simp (disch:=omega) only [↓wr,seval,wq,ah,ag,ak,aa,ab,af,ai,ae,h1,h3]
    refine aE.pure (K6 t.name) (by kernel_rfl) ?_
    repeat' (first | (refine av.dec (fun _=>?_) (fun _=>?_)) | (refine av.eq (fun _=>?_) (fun _=>?_)) | (refine av.ne (fun _=>?_) (fun _=>?_)) | (refine av.split (fun _=>?_) (fun _=>?_)) | (simp (disch:=omega) only [↓wr,seval,wq,ah,ag,ak,aa,ab,af,ai,ae,h1,h3,au]))
    all_goals try (refine hbad ?_; simp[kc, *]; done)
    rename_i hnm
    refine aE.pure (DE g hg t.name) (by kernel_rfl) ?_
    repeat' (first | (refine av.dec (fun _=>?_) (fun _=>?_)) | (refine av.eq (fun _=>?_) (fun _=>?_)) | (refine av.ne (fun _=>?_) (fun _=>?_)) | (refine av.split (fun _=>?_) (fun _=>?_)) | (simp (disch:=omega) only [↓wr,seval,wq,ah,ag,ak,aa,ab,af,ai,ae,h1,h3,au]))
    all_goals try (refine hbad ?_; simp[kc, *]; done)
    all_goals try (refine hbad ?_; simp[kc]; grind)
    rename_i e1 e2 e3 e4 e5 e6
    have hpre:kc g i t=rD g t:=by
     have e6':((t.level == 0) == (t.assoc == 0))=true:=by simpa using e6
     simp[kc,hnm,e1,e6',show (0:Int)≤t.level by omega,show t.level≤24 by omega,show (0:Int)≤t.assoc by omega,show t.assoc≤3 by omega]
    refine bc.intro (fun k' T H''=>∃ j:Nat,1≤j∧j+k'=t.level.toNat+1∧(∀ q:Nat,q+1 < j→gT g.az ((q:Int)+1)=true)∧T 1=.aO (au g) 0∧T 3=gi i∧T 4=.ptr m 0 0∧H'' m=.arr 3 [[gs t.name,gi t.level,gi t.assoc]]∧T 5=gi j) t.level.toNat ?_ ?_
    ·refine ⟨1,by omega,by omega,fun q hq=>by omega,?_⟩
     simp (disch:=omega) only [↓wr,↓reduceIte,wq,ah,ag,ak,aa,ab,af,ai,ae,Nat.reduceEqDiff,Nat.reduceAdd,Nat.reduceLT,Nat.reduceLeDiff,Int.reduceNeg,Int.reduceToNat,reduceCtorEq,h1,h3,au]
     rfl
    ·rintro k' T' H'' ⟨j,hj1,hj2,hj3,f1,f3,f4,fm,f5⟩
     simp (disch:=omega) only [↓wr,seval,wq,ah,ag,ak,aa,ab,af,ai,ae,mL,f1,f3,f4,f5,fm]
     refine av.dec (fun hd=>?_) (fun hd=>?_)
     ·simp (disch:=omega) only [↓wr,seval,wq,ah,ag,ak,aa,ab,af,ai,ae,f1,f3,f4,f5,fm,au]
      refine aE.pure (KF g hg j) (by kernel_rfl) ?_
      repeat' (first | (refine av.dec (fun _=>?_) (fun _=>?_)) | (refine av.eq (fun _=>?_) (fun _=>?_)) | (refine av.ne (fun _=>?_) (fun _=>?_)) | (refine av.split (fun _=>?_) (fun _=>?_)) | (simp (disch:=omega) only [↓wr,seval,wq,ah,ag,ak,aa,ab,af,ai,ae,f1,f3,f4,f5,fm,au]))
      ·rename_i hb
       refine ⟨k' - 1,by omega,j+1,by omega,by omega,fun q hq=>?_,by first | rfl | exact ⟨rfl,rfl⟩ | exact ⟨rfl,rfl,rfl⟩⟩
       by_cases e:q+1=j
       ·have:(q:Int)+1=j:=by omega
        rw[this]; exact hb
       ·exact hj3 q (by omega)
      ·rename_i hb
       refine hbad ?_
       rw[hpre,rD,List.all_eq_false]
       refine ⟨j - 1,by simp; omega,?_⟩
       have:((j - 1:Nat):Int)+1=j:=by omega
       rw[this,hb]; simp
     ·simp (disch:=omega) only [↓wr,seval,wq,ah,ag,ak,aa,ab,af,ai,ae,f1,f3,f4,f5,fm]
      refine ⟨k - 1,by omega,i+1,by omega,?_,by first | rfl | exact ⟨rfl,rfl⟩ | exact ⟨rfl,rfl,rfl⟩⟩
      have hlv:rD g t=true:=by
       rw[rD,UE]
       intro q hq
       exact hj3 q (by simp at hq; omega)
      rw[hpre,hlv,Vh] at hi
      push_cast; exact hi
   ·rw[UB (by omega)] at hi
    simp only[jK] at hi
    simp (disch:=omega) only [↓wr,seval,wq,ah,ag,ak,aa,ab,af,ai,ae,h1,h3]
    simp[jR,hle,← hi]
theorem K7 (g:aw) (hg:g.Ok):aG Tryz.prog 104 [.agg (au g)] (gb (jR g)):=aG.val (ef g) (La g hg)
def lF (g:aw) (i:Int) (s:ByteArray):Bool:=gx (fp s) && (yO g s == i) && decide (ml g s < 0)
def rm (g:aw):List ByteArray→Int→Bool
 | [],_=>true
 | s :: r,i=>lF g i s && rm g r (i+1)
def kD (g:aw):Bool:=decide (1≤g.ax.length) && decide (g.ax.length≤16) && rm g g.ax 0
set_option maxHeartbeats 1000000 in
theorem ML (g:aw) (hg:g.Ok) (H:View):aC Tryz.prog 105 [.agg (au g)] H fun r _=>r=gb (kD g):=by
 refine aC.of mixed vo ?_
 repeat' (first | (refine av.dec (fun _=>?_) (fun _=>?_)) | (refine av.eq (fun _=>?_) (fun _=>?_)) | (refine av.ne (fun _=>?_) (fun _=>?_)) | (refine av.split (fun _=>?_) (fun _=>?_)) | (simp (disch:=omega) only [↓wr,seval,wq,ah,ag,ak,aa,ab,af,ai,ae,qt,au,encS]))
 ·simp[kD,show ¬ 1≤g.ax.length by omega]
 ·simp[kD,show ¬ g.ax.length≤16 by omega]
 ·have hle:g.ax.length≤16:=by omega
  refine bc.intro (fun k T _=>∃ i:Nat,i+k=g.ax.length∧rm g (g.ax.drop i) i=rm g g.ax 0∧T 1=.aO (au g) 0∧T 3=gi i) g.ax.length ?_ ?_
  ·exact ⟨0,by omega,rfl,rfl,rfl⟩
  ·rintro k T H' ⟨i,hk,hi,h1,h3⟩
   simp (disch:=omega) only [↓wr,seval,wq,ah,ag,ak,aa,ab,af,ai,ae,nD,h1,h3,au,encS]
   refine av.dec (fun hc=>?_) (fun hc=>?_)
   ·have hg2:g.ax[i]?=some (g.ax[i]'(by omega)):=T4 (by omega)
    rw[eM (show i < g.ax.length by omega)] at hi
    generalize g.ax[i]'(by omega)=t at hg2 hi
    simp only[rm] at hi
    have hbad:lF g i t=false→gb false=gb (kD g):=fun e=>by rw[e,VA] at hi; simp[kD,← hi]
    simp (disch:=omega) only [↓wr,seval,wq,ah,ag,ak,aa,ab,af,ai,ae,h1,h3,au,encS,T8,hg2,Ue]
    refine aE.pure (Eh t) (by kernel_rfl) ?_
    repeat' (first | (refine av.dec (fun _=>?_) (fun _=>?_)) | (refine av.eq (fun _=>?_) (fun _=>?_)) | (refine av.ne (fun _=>?_) (fun _=>?_)) | (refine av.split (fun _=>?_) (fun _=>?_)) | (simp (disch:=omega) only [↓wr,seval,wq,ah,ag,ak,aa,ab,af,ai,ae,h1,h3,au,encS,T8,hg2,Ue]))
    all_goals try (refine hbad ?_; simp[lF, *]; done)
    rename_i hnm
    refine aE.pure (Ot g hg t) (by kernel_rfl) ?_
    repeat' (first | (refine av.dec (fun _=>?_) (fun _=>?_)) | (refine av.eq (fun _=>?_) (fun _=>?_)) | (refine av.ne (fun _=>?_) (fun _=>?_)) | (refine av.split (fun _=>?_) (fun _=>?_)) | (simp (disch:=omega) only [↓wr,seval,wq,ah,ag,ak,aa,ab,af,ai,ae,h1,h3,au,encS,T8,hg2,Ue]))
    all_goals try (refine hbad ?_; simp[lF, *]; done)
    rename_i hno
    refine aE.pure (DE g hg t) (by kernel_rfl) ?_
    repeat' (first | (refine av.dec (fun _=>?_) (fun _=>?_)) | (refine av.eq (fun _=>?_) (fun _=>?_)) | (refine av.ne (fun _=>?_) (fun _=>?_)) | (refine av.split (fun _=>?_) (fun _=>?_)) | (simp (disch:=omega) only [↓wr,seval,wq,ah,ag,ak,aa,ab,af,ai,ae,h1,h3,au,encS]))
    all_goals try (refine hbad ?_; simp[lF, *]; done)
    rename_i hte
    refine ⟨k - 1,by omega,i+1,by omega,?_,by first | rfl | exact ⟨rfl,rfl⟩ | exact ⟨rfl,rfl,rfl⟩⟩
    have:lF g i t=true:=by simp[lF,hnm,hno,show ml g t < 0 by omega]
    rw[this,Vh] at hi
    push_cast; exact hi
   ·rw[UB (by omega)] at hi
    simp only[rm] at hi
    simp (disch:=omega) only [↓wr,seval,wq,ah,ag,ak,aa,ab,af,ai,ae,h1,h3]
    simp[kD,hle,show 1≤g.ax.length by omega,← hi]
theorem Mv (g:aw) (hg:g.Ok):aG Tryz.prog 105 [.agg (au g)] (gb (kD g)):=aG.val (ef g) (ML g hg)
def mF (g:aw) (prec s:Int):Bool:=iz g s && !(decide (0≤s) && prec == -1)
def iA (g:aw) (r:aW):Bool:=decide (r.right.length≤6) && decide (-1≤r.prec) && decide (r.prec < g.az.length) && r.right.all (mF g r.prec)
theorem GJ (g:aw) (r:aW):∀ v∈[V.agg (au g),V.agg (aP r)],Tree v:=by
 intro v hv; simp at hv
 rcases hv with rfl | rfl
 ·exact cT _ (dR g)
 ·exact cT _ (gB r)
set_option maxHeartbeats 1000000 in
theorem NN (g:aw) (r:aW) (hr:aY r.right∧∀ x∈r.right,cp x) (H:View):aC Tryz.prog 106 [.agg (au g),.agg (aP r)] H fun v _=>v=gb (iA g r):=by
 refine aC.of mixed uH ?_
 repeat' (first | (refine av.dec (fun _=>?_) (fun _=>?_)) | (refine av.eq (fun _=>?_) (fun _=>?_)) | (refine av.ne (fun _=>?_) (fun _=>?_)) | (refine av.split (fun _=>?_) (fun _=>?_)) | (simp (disch:=omega) only [↓wr,seval,wq,ah,ag,ak,aa,ab,af,ai,ae,qG,au,encS,aP,encI]))
 ·simp[iA,show ¬ r.right.length≤6 by omega]
 ·simp[iA,show ¬ -1≤r.prec by omega]
 ·simp[iA,show ¬ r.prec < g.az.length by omega]
 ·have hle:r.right.length≤6:=by omega
  have hp1 : -1≤r.prec:=by omega
  have hp2:r.prec < g.az.length:=by omega
  refine bc.intro (fun k T _=>∃ i:Nat,i+k=r.right.length∧(r.right.drop i).all (mF g r.prec)=r.right.all (mF g r.prec)∧T 2=.aO (au g) 0∧T 3=.aO (aP r) 0∧T 5=gi i) r.right.length ?_ ?_
  ·exact ⟨0,by omega,rfl,rfl,rfl,rfl⟩
  ·rintro k T H' ⟨i,hk,hi,h2,h3,h5⟩
   simp (disch:=omega) only [↓wr,seval,wq,ah,ag,ak,aa,ab,af,ai,ae,oh,h2,h3,h5,aP,encI]
   refine av.dec (fun hc=>?_) (fun hc=>?_)
   ·have hg2:r.right[i]?=some (r.right[i]'(by omega)):=T4 (by omega)
    rw[eM (show i < r.right.length by omega)] at hi
    have hmem:r.right[i]'(by omega)∈r.right:=Ud _
    generalize r.right[i]'(by omega)=t at hg2 hi hmem
    have hin:=hr.2 t hmem
    simp only[Vg] at hi
    have hbad:mF g r.prec t=false→gb false=gb (iA g r):=fun e=>by rw[e,VA] at hi; simp only[iA,← hi,Bool.and_false]
    have hok:mF g r.prec t=true→(r.right.drop (i+1)).all (mF g r.prec)=r.right.all (mF g r.prec):=fun e=>by rw[e,Vh] at hi; exact hi
    simp (disch:=omega) only [↓wr,seval,wq,ah,ag,ak,aa,ab,af,ai,ae,h2,h3,h5,au,encS,aP,encI,T8,hg2,Ue]
    refine aE.pure (RR g t hin) (by kernel_rfl) ?_
    repeat' (first | (refine av.dec (fun _=>?_) (fun _=>?_)) | (refine av.eq (fun _=>?_) (fun _=>?_)) | (refine av.ne (fun _=>?_) (fun _=>?_)) | (refine av.split (fun _=>?_) (fun _=>?_)) | (simp (disch:=omega) only [↓wr,seval,wq,ah,ag,ak,aa,ab,af,ai,ae,h2,h3,h5,au,encS,aP,encI,T8,hg2,Ue]))
    all_goals first
     | (refine hbad ?_; simp[mF, *]; done)
     | (refine ⟨k - 1,by omega,i+1,by omega,hok (by simp[mF, *]; done),by first | rfl | exact ⟨rfl,rfl⟩ | exact ⟨rfl,rfl,rfl⟩⟩)
     | skip
   ·rw[UB (by omega)] at hi
    simp only[List.all_nil] at hi
    simp (disch:=omega) only [↓wr,seval,wq,ah,ag,ak,aa,ab,af,ai,ae,h2,h3,h5]
    simp only[iA,hle,hp1,hp2,decide_true,Vh,← hi]
theorem Oe (g:aw) (r:aW) (hr:aY r.right∧∀ x∈r.right,cp x):aG Tryz.prog 106 [.agg (au g),.agg (aP r)] (gb (iA g r)):=aG.val (GJ g r) (NN g r hr)
def gV (g:aw):List aW→Int→Bool
 | [],top=>top == (g.ax.length:Int) - 1
 | r :: l,top=>decide (0≤r.left) && decide (r.left≤top+1) && iA g r && gV g l (if r.left > top then r.left else top)
def bR (g:aw):Bool :=
 jR g && kD g && decide (1≤g.rules.length) && decide (g.rules.length≤40) && decide (0≤g.start) && decide (g.start < g.ax.length) && gV g g.rules (-1)
set_option maxHeartbeats 1000000 in
theorem Lk (g:aw) (hg:g.Ok) (H:View):aC Tryz.prog 54 [.agg (au g)] H fun r _=>r=gb (bR g):=by
 refine aC.of mixed uv ?_
 have hn:=hg.ax
 unfold aY at hn
 simp (disch:=omega) only [↓wr,seval,wq,ah,ag,ak,aa,ab,af,ai,ae,pk,au,encS]
 refine aE.pure (K7 g hg) (by kernel_rfl) ?_
 repeat' (first | (refine av.dec (fun _=>?_) (fun _=>?_)) | (refine av.eq (fun _=>?_) (fun _=>?_)) | (refine av.ne (fun _=>?_) (fun _=>?_)) | (refine av.split (fun _=>?_) (fun _=>?_)) | (simp (disch:=omega) only [↓wr,seval,wq,ah,ag,ak,aa,ab,af,ai,ae,au,encS]))
 ·rename_i h1
  refine aE.pure (Mv g hg) (by kernel_rfl) ?_
  repeat' (first | (refine av.dec (fun _=>?_) (fun _=>?_)) | (refine av.eq (fun _=>?_) (fun _=>?_)) | (refine av.ne (fun _=>?_) (fun _=>?_)) | (refine av.split (fun _=>?_) (fun _=>?_)) | (simp (disch:=omega) only [↓wr,seval,wq,ah,ag,ak,aa,ab,af,ai,ae,au,encS]))
  all_goals try (simp[bR, *]; done)
  all_goals try (simp[bR]; omega)
  rename_i h2 h3 h4 h5 h6
  have hle:g.rules.length≤40:=by omega
  have hpre:∀ b,gV g g.rules (-1)=b→gb b=gb (bR g):=fun b e=>by
   simp[bR,h1,h2,show 1≤g.rules.length by omega,hle,show 0≤g.start by omega,show g.start < g.ax.length by omega,e]
  refine bc.intro (fun k T _=>∃ (i:Nat) (w:Int),i+k=g.rules.length∧-1≤w∧w < i∧gV g (g.rules.drop i) w=gV g g.rules (-1)∧T 1=.aO (au g) 0∧T 3=gi w∧T 4=gi i) g.rules.length ?_ ?_
  ·exact ⟨0,-1,by omega,by omega,by omega,rfl,rfl,rfl,rfl⟩
  ·rintro k T H' ⟨i,w,hk,hw1,hw2,hi,f1,f3,f4⟩
   simp (disch:=omega) only [↓wr,seval,wq,ah,ag,ak,aa,ab,af,ai,ae,mT,f1,f3,f4,au]
   refine av.dec (fun hc=>?_) (fun hc=>?_)
   ·have hg2:g.rules[i]?=some (g.rules[i]'(by omega)):=T4 (by omega)
    rw[eM (show i < g.rules.length by omega)] at hi
    have hmem:g.rules[i]'(by omega)∈g.rules:=Ud _
    generalize g.rules[i]'(by omega)=t at hg2 hi hmem
    obtain ⟨⟨hl1,hl2⟩,hp,hr1,hr2⟩:=hg.aH t hmem
    simp only[gV] at hi
    simp (disch:=omega) only [↓wr,seval,wq,ah,ag,ak,aa,ab,af,ai,ae,f1,f3,f4,au,encS,aP,encI,T8,hg2,Ue]
    intro m hm
    try simp (disch:=omega) only [↓wr,seval,wq,ah,ag,ak,aa,ab,af,ai,ae,f1,f3,f4]
    repeat' (first | (refine av.dec (fun _=>?_) (fun _=>?_)) | (refine av.eq (fun _=>?_) (fun _=>?_)) | (refine av.ne (fun _=>?_) (fun _=>?_)) | (refine av.split (fun _=>?_) (fun _=>?_)) | (simp (disch:=omega) only [↓wr,seval,wq,ah,ag,ak,aa,ab,af,ai,ae,f1,f3,f4,au,encS,aP,encI]))
    all_goals try (refine hpre _ ?_; simp only[← hi]; simp; omega)
    rename_i e1 e2
    refine aE.pure (Oe g t ⟨hr1,hr2⟩) (by kernel_rfl) ?_
    repeat' (first | (refine av.dec (fun _=>?_) (fun _=>?_)) | (refine av.eq (fun _=>?_) (fun _=>?_)) | (refine av.ne (fun _=>?_) (fun _=>?_)) | (refine av.split (fun _=>?_) (fun _=>?_)) | (simp (disch:=omega) only [↓wr,seval,wq,ah,ag,ak,aa,ab,af,ai,ae,f1,f3,f4,au,encS,aP,encI]))
    all_goals simp only[show 0≤t.left by omega,show t.left≤w+1 by omega,decide_true,Vh] at hi
    ·rename_i e3 e4
     rw[e3,Vh,T9 e4] at hi
     exact ⟨k - 1,by omega,i+1,_,by omega,by omega,by push_cast; omega,hi,by first | rfl | exact ⟨rfl,rfl⟩ | exact ⟨rfl,rfl,rfl⟩⟩
    ·rename_i e3 e4
     rw[e3,Vh,T6 e4] at hi
     exact ⟨k - 1,by omega,i+1,_,by omega,by omega,by push_cast; omega,hi,by first | rfl | exact ⟨rfl,rfl⟩ | exact ⟨rfl,rfl,rfl⟩⟩
    ·rename_i e3
     rw[e3,VA] at hi
     exact hpre _ hi.symm
   ·rw[UB (by omega)] at hi
    simp only[gV] at hi
    simp (disch:=omega) only [↓wr,seval,wq,ah,ag,ak,aa,ab,af,ai,ae,f1,f3,f4,au,encS]
    exact hpre _ hi.symm
 ·rename_i h1; simp[bR,h1]
theorem kY (g:aw) (hg:g.Ok):aG Tryz.prog 54 [.agg (au g)] (gb (bR g)):=aG.val (ef g) (Lk g hg)
inductive cI (α:Type) where
 | nil
 | node (v:α) (l r:cI α)
noncomputable def cI.get {α:Type} (z:α) (t:cI α):Nat→α :=
 cI.rec (motive:=fun _=>Nat→α) (fun _=>z) (fun v _ _ gl gr i=>Bool.rec (Bool.rec (gr (i / 2 - 1)) (gl (i / 2)) (Nat.beq (i % 2) 1)) v (Nat.beq i 0)) t
theorem cI.get_nil {α:Type} (z:α) (i:Nat):cI.get z .nil i=z:=rfl
theorem cI.PU {α:Type} (z v:α) (l r:cI α) (i:Nat):cI.get z (.node v l r) i=match Nat.beq i 0 with
  | true=>v
  | false=>match Nat.beq (i % 2) 1 with
   | true=>cI.get z l (i / 2)
   | false=>cI.get z r (i / 2 - 1):=by
 change (Bool.rec (motive:=fun _=>α) _ _ _:α)=_
 cases Nat.beq i 0 with
 | true=>rfl
 | false=>cases Nat.beq (i % 2) 1 <;> rfl
def cI.val {α:Type} (z:α):cI α→α
 | .nil=>z
 | .node v _ _=>v
def cI.left {α:Type} : cI α→cI α
 | .nil=>.nil
 | .node _ l _=>l
def cI.right {α:Type} : cI α→cI α
 | .nil=>.nil
 | .node _ _ r=>r
noncomputable def cI.put {α:Type} (z:α) (x:α) (d:Nat):cI α→Nat→cI α :=
 Nat.rec (motive:=fun _=>cI α→Nat→cI α) (fun t _=>t) (fun _ pd t i =>
  Bool.rec (Bool.rec (.node (t.val z) t.left (pd t.right (i / 2 - 1))) (.node (t.val z) (pd t.left (i / 2)) t.right) (Nat.beq (i % 2) 1)) (.node x t.left t.right) (Nat.beq i 0)) d
theorem cI.O3 {α:Type} (z x:α) (d:Nat) (t:cI α) (i:Nat):cI.put z x (d+1) t i=match Nat.beq i 0 with
  | true=>.node x t.left t.right
  | false=>match Nat.beq (i % 2) 1 with
   | true=>.node (t.val z) (cI.put z x d t.left (i / 2)) t.right
   | false=>.node (t.val z) t.left (cI.put z x d t.right (i / 2 - 1)):=by
 change (Bool.rec (motive:=fun _=>cI α) _ _ _:cI α)=_
 cases Nat.beq i 0 with
 | true=>rfl
 | false=>cases Nat.beq (i % 2) 1 <;> rfl
theorem cI.nr {α:Type} (z:α) (t:cI α) (j:Nat):t.get z j=if j=0 then t.val z else if j % 2=1 then t.left.get z (j / 2) else t.right.get z (j / 2 - 1):=by
 cases t with
 | nil=>simp[cI.get_nil,cI.val,cI.left,cI.right]
 | node v l r =>
  simp only[cI.PU,cI.val,cI.left,cI.right]
  by_cases h:j=0
  ·subst h; rfl
  ·have:Nat.beq j 0=false:=by cases e:Nat.beq j 0 with | true=>exact absurd (VU e) h | false=>rfl
   rw[this,T6 h]
   simp only
   by_cases h2:j % 2=1
   ·have:Nat.beq (j % 2) 1=true:=by rw[h2]; rfl
    rw[this,T9 h2]
   ·have:Nat.beq (j % 2) 1=false:=by cases e:Nat.beq (j % 2) 1 with | true=>exact absurd (VU e) h2 | false=>rfl
    rw[this,T6 h2]
theorem cI.mO {α:Type} (z x:α):∀ (d:Nat) (t:cI α) (i j:Nat),i+1 < 2 ^ d→(cI.put z x d t i).get z j=if j=i then x else t.get z j
 | 0,t,i,j,h=>by simp at h
 | d+1,t,i,j,h=>by
  rw[Nat.pow_succ] at h
  simp only[cI.O3]
  by_cases hi:i=0
  ·subst hi
   have:Nat.beq 0 0=true:=rfl
   rw[this]
   simp only
   rw[cI.nr,cI.nr z t]
   simp only[cI.val,cI.left,cI.right]
   by_cases hj:j=0
   ·rw[T9 hj,T9 hj]
   ·rw[T6 hj,T6 hj,T6 hj]
  ·have:Nat.beq i 0=false:=by cases e:Nat.beq i 0 with | true=>exact absurd (VU e) hi | false=>rfl
   rw[this]
   simp only
   by_cases h2:i % 2=1
   ·have:Nat.beq (i % 2) 1=true:=by rw[h2]; rfl
    rw[this]
    simp only
    rw[cI.nr,cI.nr z t]
    simp only[cI.val,cI.left,cI.right]
    by_cases hj:j=0
    ·subst hj; rw[T9 rfl,T6 (fun e=>hi e.symm),T9 rfl]
    ·rw[T6 hj,T6 hj]
     by_cases hj2:j % 2=1
     ·rw[T9 hj2,T9 hj2,cI.mO z x d _ _ _ (by omega)]
      by_cases e:j=i
      ·subst e; simp
      ·rw[T6 e,T6 (by omega)]
     ·rw[T6 hj2,T6 hj2,T6 (fun e=>hj2 (by rw[e]; exact h2))]
   ·have:Nat.beq (i % 2) 1=false:=by cases e:Nat.beq (i % 2) 1 with | true=>exact absurd (VU e) h2 | false=>rfl
    rw[this]
    simp only
    rw[cI.nr,cI.nr z t]
    simp only[cI.val,cI.left,cI.right]
    by_cases hj:j=0
    ·subst hj; rw[T9 rfl,T6 (fun e=>hi e.symm),T9 rfl]
    ·rw[T6 hj,T6 hj]
     by_cases hj2:j % 2=1
     ·rw[T9 hj2,T9 hj2,T6 (fun e=>h2 (by rw[← e]; exact hj2))]
     ·rw[T6 hj2,T6 hj2,cI.mO z x d _ _ _ (by omega)]
      by_cases e:j=i
      ·subst e; simp
      ·rw[T6 e,T6 (by omega)]
abbrev deep:Nat:=13
structure ES where
 L:cI V
 H:cI dy
 n:Nat
 w:List Nat
noncomputable def ES.T (s:ES):Env:=s.L.get .any
noncomputable def ES.V (s:ES):View:=s.H.get .dead
noncomputable def ES.put (s:ES) (d:Option Nat) (v:Gv.V):ES:=match d with
 | some t=>⟨s.L.put .any v deep t,s.H,s.n,s.w⟩
 | none=>s
theorem ES.P5 {s:ES} {d:Option Nat} {v:Gv.V} (h:∀ t,d=some t→t < 8000):(s.put d v).T=s.T.put d v:=by
 cases d with
 | none=>rfl
 | some t =>
  funext k
  have:=h t rfl
  simp only[ES.put,ES.T,Env.put]
  rw[cI.mO _ _ _ _ _ _ (by simp[deep]; omega)]
noncomputable def FA (v:V) (eff:bC) (rd:List Nat) (s:ES):Option (V × ES × Rec):=match eff with
 | .none=>some (v,s,⟨rd,[],false,s.n,s.n⟩)
 | .new o=>match Nat.ble s.n 8000 with
  | true=>some (v,⟨s.L,s.H.put .dead o deep s.n,s.n+1,s.w⟩,⟨rd,[],false,s.n,s.n+1⟩)
  | false=>none
 | .eW id o=>match Nat.ble id 8000 with
  | true=>some (v,⟨s.L,s.H.put .dead o deep id,s.n,id :: s.w⟩,⟨rd,[id],false,s.n,s.n⟩)
  | false=>none
 | .bP id o=>match Nat.ble s.n 8000,Nat.ble id 8000 with
  | true,true=>some (v,⟨s.L,(s.H.put .dead .dead deep id).put .dead o deep s.n,s.n+1,id :: s.w⟩,⟨rd,[id],false,s.n,s.n+1⟩)
  | _,_=>none
noncomputable def To (x:SX) (_:Program) (T:Env) (_:View) (_:Nat):Out:=some (x.at T,.none,[])
noncomputable def Sd (c a b:SX) (_:Program) (T:Env) (_:View) (_:Nat):Out:=match c.at T with
 | .val (.bool t)=>some (if t then a.at T else b.at T,.none,[])
 | _=>none
noncomputable def R7 (sz:Option Nat) (a:SX) (_:Program) (T:Env) (H:View) (_:Nat):Out:=wO sz (a.at T) H
noncomputable def RW (sz:Nat) (a x:SX) (_:Program) (T:Env) (H:View) (_:Nat):Out:=Bh sz (a.at T) (x.at T) H
noncomputable def Sg (off:Nat) (x:SX) (_:Program) (T:Env) (_:View) (_:Nat):Out:=zy off (x.at T)
noncomputable def SQ (sz:Nat) (x i:SX) (_:Program) (T:Env) (_:View) (_:Nat):Out:=Di sz (x.at T) (i.at T)
noncomputable def Tc (x:SX) (_:Program) (T:Env) (_:View) (_:Nat):Out:=(cG (x.at T)).map fun n=>(ak n,.none,[])
noncomputable def Rw (op:BinOp) (x y:SX) (_:Program) (T:Env) (_:View) (_:Nat):Out:=xW op (x.at T) (y.at T)
noncomputable def S8 (op:BinOp) (x y:SX) (_:Program) (T:Env) (_:View) (_:Nat):Out:=AK op (x.at T) (y.at T)
noncomputable def Tn (x:SX) (_:Program) (T:Env) (_:View) (_:Nat):Out:=match x.at T with
 | .val (.bool t)=>some (.val (.bool (!t)),.none,[])
 | _=>none
noncomputable def TB (i:Nat) (x:SX) (_:Program) (T:Env) (_:View) (_:Nat):Out:=match x.at T with
 | .bE vs=>if i < vs.length then some (vs.getD i .any,.none,[]) else none
 | _=>none
noncomputable def Sk (x:SX) (_:Program) (T:Env) (_:View) (_:Nat):Out:=match x.at T with
 | .ptr id i j=>some (.ptr id i j,.none,[])
 | .aO e j=>some (.aO e j,.none,[])
 | .fn f a b=>some (.fn f a b,.none,[])
 | _=>none
noncomputable def eI (s:SI):Program→Env→View→Nat→Out:=match s with
 | .bP x=>To x
 | .pick c a b=>Sd c a b
 | .load sz a=>R7 sz a
 | .store sz a x=>RW sz a x
 | .addr o x=>Sg o x
 | .idx sz x i=>SQ sz x i
 | .len x=>Tc x
 | .arith op x y=>Rw op x y
 | .xk op x y=>S8 op x y
 | .not x=>Tn x
 | .ext i x=>TB i x
 | .Ap x=>Sk x
 | s=>fun P T H n=>sI P s T H n
theorem Ll (s:SI) (P:Program) (T:Env) (H:View) (n:Nat):eI s P T H n=sI P s T H n:=by
 cases s <;> rfl
abbrev iy:=FuncId→List V→ES→Option (V × ES)
noncomputable def LC (P:Program) (s:SI) (e:ES):Option (V × ES × Rec):=match eI s P e.T e.V e.n with
 | some (v,eff,rd)=>FA v eff rd e
 | none=>none
noncomputable def NL (call:iy) (f:SX) (args:List SX) (e:ES):Option (V × ES × Rec):=match f.at e.T with
 | .fn g first cap=>match call g (first ++ args.map (SX.at e.T) ++ cap) e with
  | some (v,e')=>some (v,⟨e.L,e'.H,e'.n,e'.w ++ e.w⟩,⟨[],e'.w,true,e.n,e'.n⟩)
  | none=>none
 | _=>none
noncomputable def eB (P:Program) (call:iy) (b:SB):ES→Option (V × ES × Rec):=match b with
 | .op s=>LC P s
 | .call f args=>NL call f args
 | .zm ..=>fun _=>none
noncomputable def Jb (P:Program) (call:iy):List (Option Nat × SB)→List Rec→ES→Option (ES × List Rec)
 | [],a,e=>some (e,a)
 | (d,b) :: r,a,e=>match eB P call b e with
  | some (v,e',c)=>Jb P call r (a ++ [c]) (e'.put d v)
  | none=>none
noncomputable def Qq (e:ES):Rec:=⟨[],[],false,e.n,e.n⟩
noncomputable def vZ:List (Option Nat × SB)→List Rec→ES→ES × List Rec
 | [],a,e=>(e,a)
 | (d,_) :: r,a,e=>vZ r (a ++ [Qq e]) (e.put d (.bE []))
noncomputable def Mr (P:Program) (call:iy) (ops:List (Option Nat × SB)) (want:Bool) (v:V) (a:List Rec) (e:ES):Option (ES × List Rec):=match v with
 | .val (.bool b)=>match xor b want with
  | true=>some (vZ ops a e)
  | false=>Jb P call ops a e
 | .bE []=>some (vZ ops a e)
 | _=>none
noncomputable def eG (P:Program) (call:iy) (g:SG) (a:List Rec) (e:ES):Option (ES × List Rec):=match g.guard with
 | none=>Jb P call g.ops a e
 | some (d,want)=>Mr P call g.ops want (e.T d) a e
noncomputable def LD (P:Program) (call:iy):List SG→List Rec→ES→Option (ES × List Rec)
 | [],a,e=>some (e,a)
 | g :: r,a,e=>match eG P call g a e with
  | some (e',a')=>LD P call r a' e'
  | none=>none
inductive DC where
 | skip
 | region (ps:List (Nat × Nat)) (gs:List SG)
 | seq (x y:DC)
 | cond (c:SX) (x y:DC)
 | block (id:Nat) (c:DC)
 | loop (c:DC)
 | exit (id:Nat)
 | ret
 deriving Inhabited
def Ns (recs:List Rec) (ps:List (Nat × Nat)):Bool:=ps.all fun (i,k)=>match recs[i]?,recs[k]? with
 | some a,some b=>CT a b
 | _,_=>false
abbrev ER:=Option (Exit × ES)
abbrev wW:=DC→ES→ER
noncomputable def L8:ES→ER:=fun e=>some (.normal,e)
noncomputable def I0 (P:Program) (call:iy) (ps:List (Nat × Nat)) (gs:List SG) (e:ES):ER:=match LD P call gs [] e with
 | some (e',recs)=>match Ns recs ps with
  | true=>some (.normal,e')
  | false=>none
 | none=>none
noncomputable def Rx (run:wW) (x y:DC) (e:ES):ER:=match run x e with
 | some (.normal,e')=>run y e'
 | r=>r
noncomputable def Qa (run:wW) (c:SX) (x y:DC) (e:ES):ER:=match c.at e.T with
 | .val (.bool true)=>run x e
 | .val (.bool false)=>run y e
 | _=>none
noncomputable def Ms (run:wW) (id:Nat) (c:DC) (e:ES):ER:=match run c e with
 | some (r,e')=>some (pZ id r,e')
 | none=>none
noncomputable def Qo (run:wW) (c:DC) (e:ES):ER:=match run c e with
 | some (.normal,e')=>run (.loop c) e'
 | r=>r
noncomputable def mn (P:Program) (call:iy) (run:wW) (c:DC):ES→ER:=match c with
 | .skip=>L8
 | .region ps gs=>I0 P call ps gs
 | .seq x y=>Rx run x y
 | .cond c x y=>Qa run c x y
 | .block id c=>Ms run id c
 | .loop c=>Qo run c
 | .exit id=>fun e=>some (.exit id,e)
 | .ret=>fun e=>some (.ret,e)
noncomputable def OA (r:SR) (e:ES):Option V:=match r with
 | .tmp t=>some (e.T t)
 | .cell t sz=>match e.T t with
  | .ptr id i j=>match e.V id with
   | .arr _ es=>if i < es.length then me sz (es.getD i []) j else none
   | _=>none
  | .aO e j=>me sz e j
  | _=>none
noncomputable def wm:List SR→ES→Option (List V)
 | [],_=>some []
 | r :: l,e=>match OA r e,wm l e with
  | some v,some vs=>some (v :: vs)
  | _,_=>none
noncomputable def mS:List V→Nat→cI V→cI V
 | [],_,t=>t
 | v :: vs,i,t=>mS vs (i+1) (t.put .any v deep i)
structure DF where
 code:DC
 res:List SR
 n:Nat
noncomputable def Rz (l:List SR) (r:ER):Option (V × ES):=match r with
 | some (.ret,e)=>(wm l e).map fun vs=>(ah vs,e)
 | some (.normal,e)=>(wm l e).map fun vs=>(ah vs,e)
 | _=>none
noncomputable def RC (m:Nat) (r:Option (V × ES)):Option (V × ES):=match r with
 | some (v,e)=>some (v,⟨e.L,e.H,e.n,e.w.filter fun id=>Nat.blt id m⟩)
 | none=>none
noncomputable def Rk (run:wW) (F:DF) (vs:List V) (e:ES):Option (V × ES):=match Nat.ble vs.length F.n,Nat.ble F.n 8000 with
 | true,true=>RC e.n (Rz F.res (run F.code ⟨mS vs 0 .nil,e.H,e.n,[]⟩))
 | _,_=>none
abbrev xH:=FuncId→List V→View→Option V
noncomputable def Fl (P:Program) (tab:List (FuncId × DF)) (ext:xH) (run:wW) (g:FuncId) (vs:List V) (e:ES):Option (V × ES):=match ext g vs e.V with
 | some t=>some (t,⟨e.L,e.H,e.n,[]⟩)
 | none=>match tab.find? (fun p=>Nat.beq p.1 g) with
  | some (_,F)=>Rk run F vs e
  | none=>none
noncomputable def Gk (P:Program) (tab:List (FuncId × DF)) (ext:xH):Nat→wW
 | 0=>fun _ _=>none
 | k+1=>mn P (Fl P tab ext (Gk P tab ext k)) (Gk P tab ext k)
def Cx (all:List Oper) (ls:List Nat):List (Nat × Nat) :=
 let b:=fw all []
 (ls.zipIdx.map fun (x,i)=>(ls.zipIdx.filter fun (y,k)=>decide (i < k) && !(ordered b i k || x == 0 || y == 0 || (decide (x≤1) && decide (y≤1)))).map fun (_,k)=>(i,k)).flatten
def FQ (P:Program) (n:Nat) (fz:List Nat) (ops:List Oper) (draw:Bool):Option DC:=match dI P n ops ⟨fz,false⟩ ops with
 | none=>none
 | some l=>if !(group l).all tH then none else
  if draw then (if lS ops then some (.region (Cx ops (l.map fun s=>iM P false s.b)) (group l)) else none) else some (.region [] (group l))
def jd (P:Program) (n:Nat) (fz:List Nat):Code→Option DC
 | .skip=>some .skip
 | .region _ ops draw=>FQ P n fz ops.toList draw
 | .seq x y=>match jd P n fz x,jd P n fz y with
  | some a,some b=>some (.seq a b)
  | _,_=>none
 | .cond c x y=>match jd P n fz x,jd P n fz y with
  | some a,some b=>some (.cond (SX.of c) a b)
  | _,_=>none
 | .block id c=>(jd P n fz c).map (.block id)
 | .loop c=>(jd P n fz c).map .loop
 | .exit id=>some (.exit id)
 | .ret=>some .ret
 | _=>none
abbrev TZ (l:List (Option Nat × SB)):DC:=.region [] [⟨none,l⟩]
def FI (P:Program) (f:FuncId) (fz:List Nat):Option DF:=match P.funcs[f]? with
 | some fn=>match fn.body with
  | some c=>match jd P fn.ntmps fz c,fF P fn.results.toList,dG P f with
   | some sc,some rs,true=>some ⟨sc,rs,fn.ntmps⟩
   | _,_,_=>none
  | none=>none
 | none=>none
end Gv

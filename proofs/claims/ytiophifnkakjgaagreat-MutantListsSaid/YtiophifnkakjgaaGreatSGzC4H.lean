/-
  Part 8 of the proof: what the machine does and what the functions answer.
  Conditions: those that each lemma names.
-/
import Derived.Shelf.SlIter.Sorted
import Derived.Shelf.SortM.Plain
import Derived.Shelf.SortM.SortNone
import Derived.Shelf.SlicesG.CompactS
import Derived.Test.YtiophifnkakjgaaGreatSGzC4G
set_option linter.unusedSimpArgs false
set_option linter.unusedVariables false
set_option maxRecDepth 100000
set_option maxHeartbeats 20000000
namespace Gv
open Go Go.Proofs
theorem RV (s:ByteArray):aC aa 217 [gs s] (gb (te (gG s))):=by
 refine aC.val (rT s) λH=>?_
 refine az.of mixed HI ?_
 repeat' (first | ((first|apply ao.dec|apply ao.eq|apply ao.ne|apply ao.split)<;>intro)|(refine ay.pure (KK s) ?_)|(refine ay.pure (Tg s) ?_)|(simp(disch:=omega)only[↓wr,seval,wq,DE]))
 all_goals simp[te, *]
theorem QG (s:ByteArray):aC aa 157 [gs s] (gb (!iN (gG s))):=by
 refine aC.val (rT s) λH=>?_
 refine az.of mixed Eh ?_
 repeat' (first | ((first|apply ao.dec|apply ao.eq|apply ao.ne|apply ao.split)<;>intro)|(refine ay.pure (KK s) ?_)|(simp(disch:=omega)only[↓wr,seval,wq,A4]))
def yC:SC:=
 ai [ag [aS 12 .lss 11 10],bO 12 (.exit 0),.block 1 (ai [.region false [⟨none,[aL 13 3 9 11,aV 14 3 13,((some 6),.op (.alloc [(.val (.string ⟨#[]⟩)),(.val (.int .i64 0)),(.val (.int .i64 0))])),cz 3 6 14]⟩],ai [ag [aw 15 1 6,au 16 15,aI 17 .eql 16 0],aX 17 (.exit 1)],ai [ag [af 18 3,aw 19 1 6,au 20 19,((some 21),.op (.old (.lookup 265 (.tmp 18) (.tmp 20) false) 3)),af 7 21],.region false [⟨none,[af 22 7,aI 23 .neq 22 0,af 24 23]⟩,⟨(some (24,true)),[af 25 7,aw 26 2 6,au 27 26,aS 28 .neq 25 27]⟩,⟨none,[dA 29 24 28]⟩],aX 29 (ai [ag [bb 2 false],.ret])],ag [af 30 3,aw 31 1 6,au 32 31,aw 33 2 6,au 34 33,(none,.op (.old (.mapUpdate 265 (.tmp 30) (.tmp 32) (.tmp 34)) 0))],ag [af 35 4,aw 36 1 6,au 37 36,((some 38),.op (.mm true (.tmp 35) (.tmp 37))),af 4 38]]),ag [aI 39 .add 11 1,af 11 39]]
def Bv:SF:=⟨ai [ag [bb 2 false],ag [((some 8),.op (.ra)),af 3 8],ag [aT 4 0],ai [ag [af 9 0,aM 10 9,aT 11 0],bR 0 yC],ag [af 40 3,((some 41),.op (.old (.call { callee:=.builtin .len,args:=#[(.tmp 40)],argTypes:=#[265] }) 3)),af 42 4,aS 43 .eql 41 42,af 2 43],.ret],
 [.tmp 2],44⟩
theorem Gj:aJ aa 218 []=some Bv:=by kernel_rfl
def A8:SC:=
 ai [ag [aS 8 .lss 7 6],bO 8 (.exit 0),.block 1 (ai [.region false [⟨none,[aL 9 3 5 7,aV 10 3 9,((some 4),.op (.alloc [(.val (.string ⟨#[]⟩)),(.val (.int .i64 0)),(.val (.int .i64 0))])),cz 3 4 10]⟩],.region false [⟨none,[aw 11 0 4,au 12 11,aU 13 217 [12],cO 14 13,af 15 14]⟩,⟨(some (15,false)),[aw 16 1 4,au 17 16,lG 18 154 [(.tmp 17),(.val (.val (.int .i64 0))),(.val (.val (.int .i64 24)))],cO 19 18]⟩,⟨none,[cJ 20 15 19,af 21 20]⟩,⟨(some (21,false)),[aw 22 2 4,au 23 22,lG 24 154 [(.tmp 23),(.val (.val (.int .i64 0))),(.val (.val (.int .i64 3)))],cO 25 24]⟩,⟨none,[cJ 26 21 25,af 27 26]⟩,⟨(some (27,false)),[aw 28 1 4,au 29 28,aI 30 .eql 29 0,aw 31 2 4,au 32 31,aI 33 .eql 32 0,((some 34),.op (.beq false (.tmp 30) (.tmp 33)))]⟩,⟨none,[cJ 35 27 34]⟩],aX 35 (ai [ag [bb 2 false],.ret])]),ag [aI 36 .add 7 1,af 7 36]]
def DA:SF:=⟨ai [ag [bb 2 false],ai [ag [af 5 0,aM 6 5,aT 7 0],bR 0 A8],.region false [⟨none,[af 37 0,aM 38 37,aI 39 .leq 38 24,af 40 39]⟩,⟨(some (40,true)),[af 41 0,aU 42 218 [41]]⟩,⟨none,[dA 43 40 42,af 2 43]⟩],.ret],
 [.tmp 2],44⟩
theorem HN:aJ aa 153 []=some DA:=by kernel_rfl
def AZ:SC:=
 ai [ag [aS 16 .lss 15 14],bO 16 (.exit 0),.block 1 (ai [.region false [⟨none,[aL 17 3 13 15,aV 18 3 17,((some 5),.op (.alloc [(.val (.string ⟨#[]⟩)),(.val (.int .i64 0)),(.val (.int .i64 0))])),cz 3 5 18]⟩],.region false [⟨none,[af 19 3,aw 20 0 5,au 21 20,((some 22),.op (.bH 1 1 [(.val (.string ⟨#[]⟩))] [(0,(.tmp 21))])),eZ 23 1 16 19 22,af 3 23]⟩]]),ag [aI 24 .add 15 1,af 15 24]]
def A5:SC:=
 ai [ag [aS 65 .lss 64 63],bO 65 (.exit 2),.block 3 (ai [ag [aL 66 3 62 64,aV 67 3 66,((some 8),.op (.alloc [(.val (.int .i64 0)),(.emp 1),(.val (.int .i64 0))])),cz 3 8 67],ai [.region false [⟨none,[aw 68 0 8,au 69 68,af 70 6,lG 71 154 [(.tmp 69),(.val (.val (.int .i64 0))),(.tmp 70)],cO 72 71,af 73 72]⟩,⟨(some (73,false)),[aV 74 4 1,aV 75 3 8,aU 76 159 [74,75],cO 77 76]⟩,⟨none,[cJ 78 73 77]⟩],aX 78 (ai [ag [bb 2 false],.ret])],ag [af 79 6,aw 80 0 8,au 81 80,aI 82 .add 81 1,((some 83),.op (.mm true (.tmp 79) (.tmp 82))),af 6 83]]),ag [aI 84 .add 64 1,af 64 84]]
def Dr:SF:=⟨ai [ag [bZ 1 0,bb 2 false],ag [aw 9 1 1,au 10 9,aU 11 152 [10],af 3 11],ai [ag [aw 12 0 1,au 13 12,aM 14 13,aT 15 0],bR 0 AZ],ai [.region false [⟨none,[aw 25 0 1,au 26 25,aU 27 153 [26],cO 28 27,af 29 28]⟩,⟨(some (29,false)),[aw 30 1 1,au 31 30,aM 32 31,lG 33 154 [(.tmp 32),(.val (.val (.int .i64 1))),(.val (.val (.int .i64 16)))],cO 34 33]⟩,⟨none,[cJ 35 29 34,af 36 35]⟩,⟨(some (36,false)),[aw 37 2 1,au 38 37,aM 39 38,lG 40 154 [(.tmp 39),(.val (.val (.int .i64 1))),(.val (.val (.int .i64 40)))],cO 41 40]⟩,⟨none,[cJ 42 36 41,af 43 42]⟩,⟨(some (43,false)),[af 44 3,aU 45 155 [44],cO 46 45]⟩,⟨none,[cJ 47 43 46,af 48 47]⟩,⟨(some (48,false)),[aw 49 3 1,au 50 49,aw 51 1 1,au 52 51,aM 53 52,aI 54 .sub 53 1,lG 55 154 [(.tmp 50),(.val (.val (.int .i64 0))),(.tmp 54)],cO 56 55]⟩,⟨none,[cJ 57 48 56]⟩],aX 57 (ai [ag [bb 2 false],.ret])],ai [ag [aw 58 1 1,au 59 58,lG 60 156 [(.tmp 59),(.val (.fn 157 [] []))]],aX 60 (ai [ag [bb 2 false],.ret])],ag [aT 6 0],ai [ag [aw 61 2 1,au 62 61,aM 63 62,aT 64 0],bR 2 A5],ag [af 85 6,aw 86 1 1,au 87 86,aM 88 87,aS 89 .eql 85 88,af 2 89],.ret],
 [.tmp 2],90⟩
theorem G9:aJ aa 89 [1]=some Dr:=by kernel_rfl
def fE (l:List Term):V:=.aY (l.map df)
theorem F6 (l:List Term):∀v∈[fE l],Tree v:=by intro v a;simp at a;subst a;exact eA _ _ λx _=>wT x
def rY:List Term->List (Int × Int)->Int->Option (List (Int × Int) × Int)
 | [],a,top=>some (a,top)
 | t::r,a,top=>if t.level=0 then rY r a top else
  if (fp a t.level).getD 0≠0/\(fp a t.level).getD 0≠t.assoc then none else rY r (mf t.level t.assoc a) (if t.level>top then t.level else top)
def vt (l:List Term):Bool:=match rY l [] 0 with
 | some (a,top)=>(a.length:Int)==top
 | none=>false
theorem QY (l:List Term) (F:aG l):aC aa 218 [fE l] (gb (vt l)):=by
 refine aC.val (F6 l) λH=>?_
 refine az.of mixed Gj ?_
 unfold aG at F
 simp(disch:=omega)only[↓wr,seval,wq,Bv,fE]
 intro q s
 try simp(disch:=omega)only[↓wr,seval,wq]
 refine aW.up l.length (λi T H=>(∃a m c top,H q=.map (cQ (Value.int .i64) m) c/\qw gi a m/\T 4=gi top/\rY (l.drop i) a top=rY l [] 0)/\T 0=fE l/\T 3=.mp q/\T 9=fE l/\T 10=gi l.length/\T 11=gi i) ?_ ?_
 .refine⟨⟨[],[],0,0,?_,trivial,rfl,rfl⟩,rfl,rfl,rfl,rfl,rfl⟩
  simp[View.set,cQ]
 rintro i k T H hk ⟨⟨a,m,c,top,s,hm,o,hi⟩,j,f,n,d,g⟩
 simp(disch:=omega)only[↓wr,seval,wq,yC,d,g,fE]
 apply ao.dec<;>intro G
 .have C:l[i]?=some (l[i]'(by omega)):=aa8 (by omega)
  rw[eO (show i<l.length by omega)] at hi
  generalize l[i]'(by omega)=t at C hi
  simp only[rY] at hi
  simp(disch:=omega)only[↓wr,seval,wq,n,g,fE,df,aba,C]
  intro b D
  have h:b≠q:=by rintro rfl;rw[s] at D;simp at D
  try simp(disch:=omega)only[↓wr,seval,wq]
  apply ao.eq<;>intro x
  .rw[abb x] at hi
   simp(disch:=omega)only[↓wr,seval,wq,g]
   refine aF hk (by omega) ⟨⟨a,m,c,top,?_,hm,o,hi⟩,j,f,n,d,rfl⟩
   simp[View.set,h.symm,s]
  .rw[aa9 x] at hi
   simp(disch:=omega)only[↓wr,seval,wq,f]
   refine CM (kt:=3) (et:=3) (z:=gi 0) (by kernel_rfl) (by kernel_rfl) (mg .i64 Tryz.underlying3) (id:=q) (c:=c) (m:=m) (k:=t.level) (by simp(disch:=omega)only[↓wr,seval]) (by simp(disch:=omega)only[↓wr,seval]) (by simp[View.set,h.symm,s]) ?_
   have y:(getM m t.level).getD (gi 0)=gi ((fp a t.level).getD 0):=by
    rw[hm.get];cases fp a t.level<;>rfl
   have p:∀(A:View) (u:Nat) (r:Env),(¬ ((fp a t.level).getD 0≠0/\(fp a t.level).getD 0≠t.assoc)) ->
     A q=.map (cQ (Value.int .i64) (bP t.level (gi t.assoc) c m)) u->r 0=fE l->r 3=.mp q->r 4=gi (if t.level>top then t.level else top)->r 9=fE l->r 10=gi l.length->r 11=gi ((i:Int)+1) ->
     ∃E,E<k/\FL l.length E (λi T H=>(∃a m c top,H q=.map (cQ (Value.int .i64) m) c/\qw gi a m/\T 4=gi top/\rY (l.drop i) a top=rY l [] 0)/\T 0=fE l/\T 3=.mp q/\T 9=fE l/\T 10=gi l.length/\T 11=gi i) r A:=by
    intro A u r I g1 g2 g3 g4 g5 g6 g7
    rw[aa9 I] at hi
    exact aF hk (by omega) ⟨⟨_,_,u,_,g1,hm.put t.level t.assoc c,g4,hi⟩,g2,g3,g5,g6,by rw[g7];rfl⟩
   repeat' (first | ((first|apply ao.dec|apply ao.eq|apply ao.ne|apply ao.split)<;>intro)|(simp(disch:=omega)only[↓wr,seval,wq,f,g,y]))
   .rename_i w B
    rw[abb ⟨w,B⟩] at hi
    simp only[vt,<-hi]
   .rename_i w B
    refine yz (kt:=3) (et:=3) (by kernel_rfl) (mg .i64 Tryz.underlying3) (id:=q) (c:=c) (m:=m) (k:=t.level) (v:=gi t.assoc) (by simp(disch:=omega)only[↓wr,seval]) (by simp(disch:=omega)only[↓wr,seval]) (by simp(disch:=omega)only[↓wr,seval]) (by simp[View.set,h.symm,s]) ?_
    intro u
    simp(disch:=omega)only[↓wr,seval,wq,o,g,h]
    exact p _ u _ (λe=>e.2 B) (by simp[View.set]) j f rfl n d rfl
   .rename_i w
    refine yz (kt:=3) (et:=3) (by kernel_rfl) (mg .i64 Tryz.underlying3) (id:=q) (c:=c) (m:=m) (k:=t.level) (v:=gi t.assoc) (by simp(disch:=omega)only[↓wr,seval]) (by simp(disch:=omega)only[↓wr,seval]) (by simp(disch:=omega)only[↓wr,seval]) (by simp[View.set,h.symm,s]) ?_
    intro u
    simp(disch:=omega)only[↓wr,seval,wq,o,g,h]
    exact p _ u _ (λe=>e.1 w) (by simp[View.set]) j f rfl n d rfl
 .rw[aby (by omega)] at hi
  simp only[rY] at hi
  simp(disch:=omega)only[↓wr,seval,wq]
  refine Yz (kt:=3) (et:=3) (by kernel_rfl) (id:=q) (c:=c) (m:=m) (by simp(disch:=omega)only[↓wr,seval,f]) s ?_
  simp(disch:=omega)only[↓wr,seval,wq,o,hm.len]
  simp only[vt,<-hi]
def nh (t:Term):Bool:=te (gG t.name)&&decide (0<=t.level)&&decide (t.level<=24)&&decide (0<=t.assoc)&&decide (t.assoc<=3)&&((t.level==0)==(t.assoc==0))
def vu (l:List Term):Bool:=l.all nh&&decide (l.length<=24)&&vt l
theorem Tm (l:List Term) (p:aG l):aC aa 153 [fE l] (gb (vu l)):=by
 refine aC.val (F6 l) λH=>?_
 refine az.of mixed HN ?_
 have j:=p
 unfold aG at p
 simp(disch:=omega)only[↓wr,seval,wq,DA,fE]
 refine aW.up l.length (λi T H=>(l.drop i).all nh=l.all nh/\T 0=fE l/\T 5=fE l/\T 6=gi l.length/\T 7=gi i) ?_ ?_
 .exact⟨rfl,rfl,rfl,rfl,rfl⟩
 rintro i k T H hk ⟨hi,c,d,f,g⟩
 simp(disch:=omega)only[↓wr,seval,wq,A8,f,g,fE]
 apply ao.dec<;>intro r
 .have q:l[i]?=some (l[i]'(by omega)):=aa8 (by omega)
  rw[eO (show i<l.length by omega)] at hi
  generalize l[i]'(by omega)=t at q hi
  rw[acj] at hi
  have a:nh t=false->gb false=gb (vu l):=λe=>by rw[e,acq] at hi;simp[vu,<-hi]
  simp(disch:=omega)only[↓wr,seval,wq,d,g,fE,df,aba,q]
  intro b v
  repeat' (first | ((first|apply ao.dec|apply ao.eq|apply ao.ne|apply ao.split)<;>intro)|(refine ay.pure (RV t.name) ?_)|(refine ay.pure (uQ _ _ _) ?_)|(simp(disch:=omega)only[↓wr,seval,wq,c,g,fE]))
  all_goals first
   | (refine a ?_;simp[nh, *];done)
   | (refine a ?_;simp_all [nh];done)
   | skip
  rename_i s m n u
  refine aF hk (by omega) ⟨?_,c,d,f,rfl⟩
  have:nh t=true:=by
   simp only[abh,abn] at m n
   have o:((t.level==0)==(t.assoc==0))=true:=by simpa [bne] using u
   simp[nh,s,m.1,m.2,n.1,n.2,o]
  rw[this,abQ] at hi
  exact hi
 .rw[aby (by omega),List.all_nil] at hi
  simp(disch:=omega)only[↓wr,seval,wq,c,fE]
  repeat' (first | ((first|apply ao.dec|apply ao.eq|apply ao.ne|apply ao.split)<;>intro)|(refine ay.pure (QY l j) ?_)|(simp(disch:=omega)only[↓wr,seval,wq,c,fE]))
  .rename_i h
   simp[vu,<-hi,show l.length<=24 by omega]
  .rename_i h
   simp[vu,<-hi,show ¬ l.length<=24 by omega]
open Go Go.Proofs Go.Shelf Go.RowKit Go.Sort
attribute [local go_sem] Oper.semAt_some
def lM:Ren where
 f:=fun
  | 6=>219
  | 8=>268
  | 9=>269
  | 11=>288
  | 13=>246
  | 12=>289
  | 23=>282
  | 24=>283
  | 14=>298
  | 15=>299
  | 16=>300
  | 17=>301
  | 18=>302
  | 19=>303
  | 20=>304
  | 21=>305
  | 22=>306
  | 25=>308
  | 26=>292
  | 27=>293
  | 28=>309
  | 29=>310
  | 30=>311
  | 31=>312
  | n=>n
 t:=fun
  | 26=>9
  | 28=>319
  | 24=>23
  | 0=>0
  | 3=>3
  | 37=>276
  | 48=>50
  | 50=>49
  | 4=>4
  | 40=>356
  | 39=>355
  | 45=>66
  | 5=>5
  | 9=>9
  | 51=>369
  | 55=>373
  | 57=>381
  | 58=>382
  | 33=>262
  | n=>n
 g:=λn=>n
theorem XQ:Go.Proofs.SlLaysZ.n6 aa lM where
 mixed:=by kernel_rfl
 f6:=⟨Tryz.f219.name,by kernel_rfl,by kernel_rfl⟩
 f8:=⟨Tryz.f268.name,by kernel_rfl,by kernel_rfl⟩
 f11:=⟨Tryz.f288.name,by kernel_rfl,by kernel_rfl⟩
 t0:=Tryz.underlying0
 a0:=Tryz.isAgg0
 z0:=Tryz.sizeOf0
 v0:=Tryz.zeroValue0
 t24:=Tryz.underlying23
 a24:=Tryz.isAgg23
 z24:=Tryz.sizeOf23
 v24:=Tryz.zeroValue23
 t26:=Tryz.underlying9
 a26:=Tryz.isAgg9
 z26:=Tryz.sizeOf9
 v26:=Tryz.zeroValue9
 t28:=Tryz.underlying319
 a28:=Tryz.isAgg319
 z28:=Tryz.sizeOf319
 v28:=Tryz.zeroValue319
 i26:=by kernel_rfl
def SY:Ren where
 f:=fun
  | 6=>269
  | 8=>246
  | 9=>289
  | 19=>282
  | 20=>283
  | 21=>298
  | 22=>299
  | 23=>300
  | 24=>301
  | 25=>302
  | 26=>303
  | 27=>304
  | 28=>305
  | 29=>306
  | 36=>308
  | 31=>292
  | 32=>293
  | 37=>309
  | 38=>310
  | 39=>311
  | 41=>312
  | n=>n
 t:=fun
  | 27=>23
  | 29=>9
  | 3=>3
  | 32=>276
  | 26=>23
  | 0=>0
  | 44=>50
  | 46=>49
  | 4=>4
  | 36=>356
  | 35=>355
  | 41=>66
  | 5=>5
  | 9=>9
  | 53=>369
  | 57=>373
  | 63=>381
  | 64=>382
  | n=>n
 g:=λn=>n
theorem Xk:Go.Proofs.SlLaysM.n6 aa SY where
 mixed:=by kernel_rfl
 f6:=⟨Tryz.f269.name,by kernel_rfl,by kernel_rfl⟩
 f8:=by kernel_rfl
 f9:=⟨Tryz.f289.name,by kernel_rfl,by kernel_rfl⟩
 f19:=by kernel_rfl
 f20:=by kernel_rfl
 f21:=⟨Tryz.f298.name,by kernel_rfl,by kernel_rfl⟩
 f22:=⟨Tryz.f299.name,by kernel_rfl,by kernel_rfl⟩
 f23:=⟨Tryz.f300.name,by kernel_rfl,by kernel_rfl⟩
 f24:=⟨Tryz.f301.name,by kernel_rfl,by kernel_rfl⟩
 f25:=⟨Tryz.f302.name,by kernel_rfl,by kernel_rfl⟩
 f26:=⟨Tryz.f303.name,by kernel_rfl,by kernel_rfl⟩
 f27:=⟨Tryz.f304.name,by kernel_rfl,by kernel_rfl⟩
 f28:=⟨Tryz.f305.name,by kernel_rfl,by kernel_rfl⟩
 f29:=⟨Tryz.f306.name,by kernel_rfl,by kernel_rfl⟩
 f31:=by kernel_rfl
 f32:=by kernel_rfl
 f36:=⟨Tryz.f308.name,by kernel_rfl,by kernel_rfl⟩
 f37:=⟨Tryz.f309.name,by kernel_rfl,by kernel_rfl⟩
 f38:=⟨Tryz.f310.name,by kernel_rfl,by kernel_rfl⟩
 f39:=⟨Tryz.f311.name,by kernel_rfl,by kernel_rfl⟩
 f41:=⟨Tryz.f312.name,by kernel_rfl,by kernel_rfl⟩
 t0:=Tryz.underlying0
 a0:=Tryz.isAgg0
 z0:=Tryz.sizeOf0
 v0:=Tryz.zeroValue0
 t3:=Tryz.underlying3
 a3:=Tryz.isAgg3
 z3:=Tryz.sizeOf3
 v3:=Tryz.zeroValue3
 t4:=Tryz.underlying4
 a4:=Tryz.isAgg4
 z4:=Tryz.sizeOf4
 v4:=Tryz.zeroValue4
 t5:=Tryz.underlying5
 a5:=Tryz.isAgg5
 z5:=Tryz.sizeOf5
 v5:=Tryz.zeroValue5
 t9:=Tryz.underlying9
 a9:=Tryz.isAgg9
 z9:=Tryz.sizeOf9
 v9:=Tryz.zeroValue9
 t26:=Tryz.underlying23
 a26:=Tryz.isAgg23
 z26:=Tryz.sizeOf23
 v26:=Tryz.zeroValue23
 t27:=Tryz.underlying23
 a27:=Tryz.isAgg23
 z27:=Tryz.sizeOf23
 v27:=Tryz.zeroValue23
 t29:=Tryz.underlying9
 a29:=Tryz.isAgg9
 z29:=Tryz.sizeOf9
 v29:=Tryz.zeroValue9
 t32:=Tryz.underlying276
 a32:=Tryz.isAgg276
 z32:=Tryz.sizeOf276
 v32:=Tryz.zeroValue276
 t35:=Tryz.underlying355
 a35:=Tryz.isAgg355
 z35:=Tryz.sizeOf355
 v35:=Tryz.zeroValue355
 t36:=Tryz.underlying356
 a36:=Tryz.isAgg356
 z36:=Tryz.sizeOf356
 v36:=Tryz.zeroValue356
 t41:=Tryz.underlying66
 a41:=Tryz.isAgg66
 z41:=Tryz.sizeOf66
 v41:=Tryz.zeroValue66
 t44:=Tryz.underlying50
 a44:=Tryz.isAgg50
 z44:=Tryz.sizeOf50
 v44:=Tryz.zeroValue50
 t46:=Tryz.underlying49
 a46:=Tryz.isAgg49
 z46:=Tryz.sizeOf49
 v46:=Tryz.zeroValue49
 t53:=Tryz.underlying369
 a53:=Tryz.isAgg369
 z53:=Tryz.sizeOf369
 v53:=Tryz.zeroValue369
 t57:=Tryz.underlying373
 a57:=Tryz.isAgg373
 z57:=Tryz.sizeOf373
 v57:=Tryz.zeroValue373
 t63:=Tryz.underlying381
 a63:=Tryz.isAgg381
 z63:=Tryz.sizeOf381
 v63:=Tryz.zeroValue381
 t64:=Tryz.underlying382
 a64:=Tryz.isAgg382
 z64:=Tryz.sizeOf382
 v64:=Tryz.zeroValue382
def Rx:Ren where
 f:=fun
  | 44=>221
  | n=>n
 t:=fun
  | 25=>23
  | 26=>9
  | 3=>3
  | 4=>4
  | 0=>0
  | n=>n
 g:=λn=>n
theorem W7:Go.Proofs.SlLaysN.n44 aa Rx where
 mixed:=by kernel_rfl
 f44:=⟨Tryz.f221.name,by kernel_rfl,by kernel_rfl⟩
 t0:=Tryz.underlying0
 a0:=Tryz.isAgg0
 z0:=Tryz.sizeOf0
 v0:=Tryz.zeroValue0
 t3:=Tryz.underlying3
 a3:=Tryz.isAgg3
 z3:=Tryz.sizeOf3
 v3:=Tryz.zeroValue3
 t4:=Tryz.underlying4
 a4:=Tryz.isAgg4
 z4:=Tryz.sizeOf4
 v4:=Tryz.zeroValue4
 t25:=Tryz.underlying23
 a25:=Tryz.isAgg23
 z25:=Tryz.sizeOf23
 v25:=Tryz.zeroValue23
 t26:=Tryz.underlying9
 a26:=Tryz.isAgg9
 z26:=Tryz.sizeOf9
 v26:=Tryz.zeroValue9
 i26:=by kernel_rfl
def FB (n:Nat) (P:Program) (g:Nat) (lb:Array Value) (S:List (List UInt8)->Prop) (N:Nat) (w:World):Prop:=
 ∀(l:Nat) (J:List (List UInt8)->World->Prop) (W:World),(∀pre W',J pre W'->Below w.heap.size w W') ->
  (∀pre x W1,J pre W1->pre.length<N->YieldAt Fence.wide (n-1) P l #[encStr x] W1 λe W'=>e=.returned (.bool true)/\J (pre++[x]) W'/\KeepsWalks W1 W') ->
  J [] W->CallsIn Fence.wide n P g (#[.func (.yield l) #[] #[]]++lb) W λe W'=>(∃v,e=.returned v)/\∃xs,S xs/\J xs W'
theorem UP {a:List (List UInt8)} {k:Nat} (h:k<a.length):a.take k++[a.getD k []]=a.take (k+1):=by
 rw[abr];simp[h]
theorem Qo (n:Nat) (hn:1<=n) (Bs b off cap:Nat) (zs:List (List UInt8)) (hreach:zs.length*16<=140737488351232) (w:World)
  (hBs:w.cell? ⟨Bs,0,none⟩=some (.slice (some ⟨b,off,none⟩) zs.length cap)) (hBl:Bs<w.heap.size) (hbl:b<w.heap.size)
  (hc:∀j,j<zs.length->w.cell? ⟨b,off+j,none⟩=some (encStr (zs.getD j []))):
  FB n aa 270 #[.pointer (some ⟨Bs,0,none⟩)] (λxs=>xs=zs) zs.length w:=by
 intro l J W hJ hY h0
 have hbw:=hJ _ _ h0
 have hBs':=(hbw.cell (p:=⟨Bs,0,none⟩) hBl).trans hBs
 have hf:Fence.wide.fn 270:=trivial
 refine callsIn_of_wp Tryz.func270 rfl hf ?_ rfl
 simp only[Tryz.ntmps270,acw,abl,abG,Nat.reduceAdd,Nat.reduceSub,acS,acT,ada,ac0,ab3,abN]
 gi_wp2
 gi_loopw [7] (λi wr=>∃k:Nat,k<=zs.length/\i=.int .i64 k/\J (zs.take k) wr) (λi _=>zs.length-(RowKit.intOf i).toNat)
 case atStart=>exact⟨0,aco _,rfl,by simpa using h0⟩
 case round =>
  obtain⟨k,hk,rfl,hJs⟩:=hrel
  have hnx:=hJ _ _ hJs
  have hcx:k<zs.length->wr.cell? ⟨b,off+k,none⟩=some (encStr (zs.getD k [])):=λh=>(hnx.cell (p:=⟨b,off+k,none⟩) hbl).trans (hc k h)
  by_cases hlt:k<zs.length
  .obtain⟨x,hx1,hcx'⟩:∃x,zs.take k++[x]=zs.take (k+1)/\wr.cell? ⟨b,off+k,none⟩=some (encStr x):=⟨_,UP hlt,hcx hlt⟩
   obtain⟨fn,tmps,assign,body,hy,hR⟩:=hY _ x wr hJs (by simp;omega)
   clear hcx hJs
   gi_wp2
   refine hR.mono ?_
   rintro e W3 ⟨rfl,hJ3,hk3⟩
   gi_wp2
   go_roundw
   case rel=>exact⟨k+1,by omega,by simp,by rw[<-hx1];exact hJ3⟩
   case measure=>simp[RowKit.intOf];omega
  .obtain rfl:k=zs.length:=by omega
   clear hcx
   gi_wp2
   go_end0
   exact⟨⟨_,rfl⟩,_,rfl,by simpa using hJs⟩
theorem L2 (n:Nat) (hn:2<=n) (g:Nat) (lb:Array Value) (eg:∀args w,(callFunc g args).run aa w=.ok (.enter g args) w)
  (S:List (List UInt8)->Prop) (N:Nat) (hN:N<=maxLen) (hNb:N*16<=140737488355328) (w:World) (hseq:FB (n-1) aa g lb S N w):
  CallsIn Fence.wide n aa 288 #[.slice none 0 0,.func (.func g) #[] lb] w λe w'=>∃(v:Value) (ss:List (List UInt8)),e=.returned v/\S ss/\w'.ownsRow w.heap.size 9 1 v ss.length (ss.map encStr)/\Below w.heap.size w w':=by
 have h11:Fence.wide.fn 288:=trivial
 refine callsIn_of_wp_marks Tryz.func288 rfl h11 ?_ rfl
 simp only[Tryz.ntmps288,acw,abl,abG,Nat.reduceAdd,Nat.reduceSub,acS,acT,ada,ac0,ab3,abN]
 gi_wp2
 refine wpIn_rangeFunc ?_
 intro fn hfn
 let sv:Value:=.func (.func g) #[] lb
 have hz:(w.alloc (.cells #[.slice none 0 0] 23)).heap.size=w.heap.size+1:=by simp
 have hv0:=World.alloc_heap_new w (.cells #[.slice none 0 0] 23)
 have hb0:Below w.heap.size w (w.alloc (.cells #[.slice none 0 0] 23)):=(Below.refl _ w).alloc (abg _) _
 revert hz hv0 hb0
 generalize w.alloc (.cells #[.slice none 0 0] 23)=W0
 intro hz hv0 hb0
 obtain⟨W1,hW1⟩:∃W1,(W0.alloc (.deferred (some []))).alloc (.loop (AnyZ.apRec lM fn sv w.heap.size W0.heap.size .ready none))=W1:=⟨_,rfl⟩
 have hold:∀k,k<W0.heap.size->W1.heap[k]?=W0.heap[k]?:=λk hk=>by
  rw[<-hW1];exact(Below.heap_alloc _ _ k (by simp;omega)).trans (Below.heap_alloc _ _ k hk)
 have hb1:Below w.heap.size w W1:=by rw[<-hW1];exact(hb0.alloc (by omega) _).alloc (by simp;omega) _
 have hM:AnyZ.ApAt lM w fn sv w.heap.size (W0.heap.size+1) W0.heap.size [] W1:=by
  refine⟨⟨_,(hold w.heap.size (by omega)).trans hv0,⟨rfl,.inl ⟨rfl,rfl⟩⟩,by simp⟩,?_,?_,hb1⟩
  .rw[<-hW1]
   have h:=World.alloc_heap_new (W0.alloc (.deferred (some []))) (.loop (AnyZ.apRec lM fn sv w.heap.size W0.heap.size .ready none))
   rwa [World.size_alloc] at h
  .rw[<-hW1];exact(Below.heap_alloc _ _ _ (by simp)).trans (World.alloc_heap_new W0 _)
 refine⟨W0.heap.size+1,[{ target:=.collected W0.heap.size,args:=#[] }],W1,{ target:=.fn (.func g) lb,args:=#[.func (.yield (W0.heap.size+1)) #[] #[]] },W1,g,
  #[.func (.yield (W0.heap.size+1)) #[] #[]]++lb,W1,by rw[<-hW1];exact run_enterLoop_outer _ _ _ _ _,?_,?_,?_,λ_=>by omega,?_⟩
 .simp[resolve,go_sem]
 .intro f' hf';trivial
 .simp[invoke,go_sem,eg]
 .refine(hseq (W0.heap.size+1) (AnyZ.ApAt lM w fn sv w.heap.size (W0.heap.size+1) W0.heap.size) W1 (λ_ _ h=>h.below)
   (λpre x W hJ hl=>AnyZ.apYield { XQ with } Fence.wide (n-1-1) w fn hfn _ w.heap.size (W0.heap.size+1) W0.heap.size (by omega) (by omega) (by omega) (abg _) (by omega) N hN hNb pre x W hJ hl) hM).mono ?_
  rintro e W2 ⟨⟨v0,rfl⟩,ss,hS,h2⟩
  obtain⟨v,hv,hrow,_⟩:=h2.box
  have hend:=run_endLoop (P:=aa) h2.L (by simp[AnyZ.apRec])
  have hne:∀(cur:Array Value),Obj.cells #[v] 23 (0,0)≠.cells cur 9 (0,0):=λcur e=>by cases e
  obtain⟨W3,hW3⟩:∃W3,W2.putObj (W0.heap.size+1) (.loop { AnyZ.apRec lM fn sv w.heap.size W0.heap.size .ready none with state:=.exhausted })=W3:=⟨_,rfl⟩
  have hg3:W2.grownBy W3 (some (W0.heap.size+1)):=by rw[<-hW3];exact grownBy_putObj_a _ _ _
  have hv3:W3.heap[w.heap.size]?=some (.cells #[v] 23 (0,0)):=by rw[<-hW3];exact(World.putObj_heap_other (by omega)).trans hv
  have hK3:W3.heap[W0.heap.size]?=some (.deferred (some [])):=by rw[<-hW3];exact(World.putObj_heap_other (by omega)).trans h2.K
  have hrow3:=hrow.kept hg3 (ownsRow_ne_a hrow h2.L (λcur e=>by cases e))
  have hb3:Below w.heap.size w W3:=h2.below.grown hg3 h2.below.size (λk e=>by cases e;omega)
  obtain⟨hc3,hf3⟩:=cell_of_box_a hv3
  refine⟨none,W3,by rw[<-hW3];exact hend,?_⟩
  clear hW3 hW1 hold hM hend hseq
  gi_wp2
  rw[<-hz]
  refine⟨by simp,.inl ⟨_,_,rfl,run_takeDeferred hK3,?_⟩⟩
  exact⟨_,results_tmp rfl _ _ _,v,ss,rfl,hS,hrow3.kept (grownBy_putObj_a _ _ _) (ownsRow_ne_a hrow3 hK3 (λcur e=>by cases e)),hb3.grown (grownBy_putObj_a _ _ _) hb3.size (λk e=>by cases e;omega)⟩
theorem TR (n:Nat) (hn:4<=n) (g:Nat) (lb:Array Value) (eg:∀args w,(callFunc g args).run aa w=.ok (.enter g args) w)
  (S:List (List UInt8)->Prop) (N:Nat) (hN:N<=maxLen) (hNb:N*16<=140737488355328) (w:World) (hseq:FB (n-1-1-1) aa g lb S N w) (hS:∀xs,S xs->xs.length<4611686018427387904):
  CallsIn Fence.wide n aa 219 #[.func (.func g) #[] lb] w λe w'=>∃(v:Value) (ss:List (List UInt8)),e=.returned v/\S ss /\
   w'.ownsRow w.heap.size 9 1 v ss.length ((ss.mergeSort (λx y=>decide (x<=y))).map encStr)/\Below w.heap.size w w':=by
 have h6:Fence.wide.fn 219:=trivial
 have h8:Fence.wide.fn 268:=trivial
 have h9:Fence.wide.fn 269:=trivial
 have h11:Fence.wide.fn 288:=trivial
 have h1:1<=n-1:=by omega
 have h1':1<=n:=by omega
 have hcol:CallsIn Fence.wide (n-1) aa 268 #[.func (.func g) #[] lb] w λe w'=>∃(v:Value) (ss:List (List UInt8)),e=.returned v/\S ss/\w'.ownsRow w.heap.size 9 1 v ss.length (ss.map encStr)/\Below w.heap.size w w':=by
  have happ:=L2 (n-1-1) (by omega) g lb eg S N hN hNb w hseq
  refine callsIn_of_wp Tryz.func268 rfl h8 ?_ rfl
  simp only[Tryz.ntmps268,acw,abl,abG,Nat.reduceAdd,Nat.reduceSub,acS,acT,ada,ac0,ab3,abN]
  gi_wp2_with (gi_at_call 288;refine happ.mono ?_;rintro e w' ⟨v,ss,rfl,hS,hrow,hb⟩)
  go_ret
  exact⟨v,ss,rfl,hS,hrow,hb⟩
 refine callsIn_of_wp Tryz.func219 rfl h6 ?_ rfl
 simp only[Tryz.ntmps219,acw,abl,abG,Nat.reduceAdd,Nat.reduceSub,acS,acT,ada,ac0,ab3,abN]
 gi_wp2_with (gi_at_call 268;refine hcol.mono ?_;rintro e W ⟨v,ss,rfl,hSs,hrow,hb⟩)
 have hlen:=hS ss hSs
 rcases hrow.2 with ⟨rfl,hz⟩ | ⟨gb,cap,cur,rfl,hbase,hgb,r1,r2,r3,r4⟩
 .have hss:ss=[]:=List.eq_nil_of_length_eq_zero hz
  subst hss
  have cN:CallsIn Fence.wide (n-1) aa 269 #[.slice none 0 0] W λe w'=>e=.returned (.tuple #[])/\w'=W:=callsIn_wide.2 (AnyM.slices_Sort_string_none Xk none 0 W)
  gi_wp2_with (gi_at_call 269;refine cN.mono ?_;rintro e w' ⟨rfl,rfl⟩)
  go_ret
  exact⟨.slice none 0 0,[],rfl,hSs,by simpa using hrow,hb⟩
 .have hH:Holds encStr W gb 0 ss.toArray:=holds_of_block hgb (by simpa using r4)
  have hgl:gb<W.heap.size:=(Array.getElem?_eq_some_iff.1 hgb).1
  have cS:CallsIn Fence.wide (n-1) aa 269 #[.slice (some ⟨gb,0,none⟩) ss.length cap] W λe w'=>e=.returned (.tuple #[])/\∃k os,w'=grow (putRow encStr (Sort.ahead W k) gb 0 (ss.mergeSort λx y=>decide (x<=y)).toArray) os:=
   callsIn_wide.2 (AnyM.slices_Sort_string Xk gb 0 cap ss W hH hgl hlen)
  gi_wp2_with (gi_at_call 269;refine cS.mono ?_;rintro e w' ⟨rfl,nn,os,rfl⟩)
  go_ret
  exact⟨_,ss,rfl,hSs,ownsRow_sorted (by simp) hbase hgb r1 r2 r3,hb.grown (grownBy_sorted _) hb.size (λj hj=>by cases hj;exact hbase)⟩
open Go Go.Proofs Go.Shelf Go.RowKit Go.Sort
theorem Nv {l:List (List UInt8)} (c:l.Pairwise (λa b=>decide (a<=b)=true)) (h:∀j,j+1<l.length->l.getD (j+1) []≠l.getD j []):l.Nodup:=by
 induction l with
 | nil=>exact List.nodup_nil
 | cons x r g =>
  rw[acC] at c
  refine acd.2 ⟨λf=>?_,g c.2 λj i=>by simpa using h (j+1) (by simpa using i)⟩
  cases r with
  | nil=>simp at f
  | cons y r =>
   have d:=h 0 (by simp)
   simp only[acZ,acv,abX] at d
   rcases abw.1 f with e | hm
   .exact d e.symm
   .have h1:x<=y:=by simpa using c.1 y (by simp)
    have k:y<=x:=by simpa using (acC.1 c.2).1 x hm
    exact d (List.le_antisymm k h1)
theorem Un (l:List (List UInt8)):(Lib.compact l).length=l.length↔∀j,j+1<l.length->l.getD (j+1) []≠l.getD j []:=by
 have c:(Lib.compact l).length=((List.range l.length).filter (Lib.keeps l.toArray)).length:=by simp[Lib.compact,Lib.compactUpTo]
 rw[c]
 have hr:(List.range l.length).length=l.length:=by simp
 conv=>lhs;rhs;rw[<-hr]
 rw[List.length_filter_eq_length_iff]
 have b:∀j,j<l.length->l.toArray[j]! = l.getD j []:=λj a=>by simp[a]
 constructor
 .intro h j a
  have:=h (j+1) (by simpa using a)
  simp only[Lib.keeps,abn,Nat.add_sub_cancel] at this
  rcases this with e | e
  .omega
  .rw[b _ a,b _ (by omega)] at e;exact e
 .intro h j a
  simp only[ab7] at a
  simp only[Lib.keeps,abn]
  by_cases e:j=0
  .exact .inl e
  .right
   obtain⟨k,rfl⟩:∃k,j=k+1:=⟨j-1,by omega⟩
   rw[b _ a,Nat.add_sub_cancel,b _ (by omega)]
   exact h k a
theorem HY (d:List (List UInt8)):(Lib.compact (d.mergeSort λx y=>decide (x<=y))).length=d.length↔d.Nodup:=by
 have hp:=List.mergeSort_perm d (λx y=>decide (x<=y))
 have g:=List.pairwise_mergeSort (le:=λx y:List UInt8=>decide (x<=y)) (λa b c h k=>by simp at h k ⊢;exact List.le_trans h k) (λa b=>by simpa using List.le_total a b) d
 rw[<-hp.nodup_iff,<-hp.length_eq,Un]
 constructor
 .exact Nv g
 .intro i j f e
  have h1:(d.mergeSort λx y=>decide (x<=y))[j+1]'f=(d.mergeSort λx y=>decide (x<=y))[j]'(by omega):=by
   simp only[aa7,aa8 f,aa8 (show j<(d.mergeSort λx y=>decide (x<=y)).length by omega),abp] at e
   exact e
  have:=(List.getElem_inj i).1 h1
  omega
theorem Vi (w:World):grow w #[]=w:=by simp[grow]
theorem No (n:Nat) (hn:1<=n) (Bs cap:Nat) (a:Option Addr) (w:World) (hBs:w.cell? ⟨Bs,0,none⟩=some (.slice a 0 cap)) (hBl:Bs<w.heap.size):
  FB n aa 270 #[.pointer (some ⟨Bs,0,none⟩)] (λxs=>xs=[]) 0 w:=by
 intro l J W hJ hY h0
 have hbw:=hJ _ _ h0
 have hBs':=(hbw.cell (p:=⟨Bs,0,none⟩) hBl).trans hBs
 have hf:Fence.wide.fn 270:=trivial
 refine callsIn_of_wp Tryz.func270 rfl hf ?_ rfl
 simp only[Tryz.ntmps270,acw,abl,abG,Nat.reduceAdd,Nat.reduceSub,acS,acT,ada,ac0,ab3,abN]
 gi_wp2
 gi_loopw [7] (λi wr=>i=.int .i64 0/\J [] wr) (λ_ _=>0)
 case atStart=>exact⟨rfl,h0⟩
 case round =>
  obtain⟨rfl,hJs⟩:=hrel
  gi_wp2
  go_end0
  exact⟨⟨_,rfl⟩,_,rfl,hJs⟩
theorem PJ (n:Nat) (a:Option Addr) (len cap:Nat) (w:World):
  CallsIn Fence.wide n aa 220 #[.slice a len cap] w λe w'=>e=.returned (.func (.func 270) #[] #[.pointer (some ⟨w.heap.size,0,none⟩)])/\w'=w.alloc (.cells #[.slice a len cap] 23):=by
 have hf:Fence.wide.fn 220:=trivial
 refine callsIn_of_wp Tryz.func220 rfl hf ?_ rfl
 simp only[Tryz.ntmps220,acw,abl,abG,Nat.reduceAdd,Nat.reduceSub,acS,acT,ada,ac0,ab3,abN]
 gi_wp2
 go_ret
 exact⟨rfl,rfl⟩
theorem DB (a:Option Addr) (cap:Nat) (zs:List (List UInt8)) (hz:zs.length<=1000) (w:World)
  (hseq:∀n Bs,1<=n->w.heap.size=Bs->FB n aa 270 #[.pointer (some ⟨Bs,0,none⟩)] (λxs=>xs=zs) zs.length (w.alloc (.cells #[.slice a zs.length cap] 23))):
  Calls aa 155 #[.slice a zs.length cap] w λe w'=>e=.returned (.bool (decide zs.Nodup))/\Below w.heap.size w w':=by
 refine(callsIn_wide (n:=7)).1 ?_
 have hf:Fence.wide.fn 155:=trivial
 have hfv:Fence.wide.fn 220:=trivial
 have hfs:Fence.wide.fn 219:=trivial
 have hfc:Fence.wide.fn 221:=trivial
 have eg:=enters_of Tryz.func270 (by kernel_rfl) rfl
 have cV:=PJ 6 a zs.length cap w
 have cS:=TR 6 (by omega) 270 #[.pointer (some ⟨w.heap.size,0,none⟩)] eg _ zs.length (by unfold maxLen;omega) (by omega) (w.alloc (.cells #[.slice a zs.length cap] 23)) (hseq _ _ (by omega) rfl) (λxs e=>by subst e;omega)
 refine callsIn_of_wp Tryz.func155 rfl hf ?_ rfl
 simp only[Tryz.ntmps155,acw,abl,abG,Nat.reduceAdd,Nat.reduceSub,acS,acT,ada,ac0,ab3,abN]
 clear hseq
 gi_wp2_with (first
  | (gi_at_call 220;refine cV.mono ?_;rintro e w' ⟨rfl,rfl⟩)
  | (gi_at_call 219;refine cS.mono ?_;rintro e W ⟨v,ss,rfl,rfl,hrow,hb⟩)
  | fail)
 have hsz:(ss.mergeSort λx y=>decide (x<=y)).length=ss.length:=by simp
 have hBw:Below w.heap.size w W:=((Below.refl _ w).alloc (abg _) _).trans (hb.mono (by simp))
 rcases hrow.2 with ⟨rfl,h0⟩ | ⟨gb,cap',cur,rfl,hbase,hgb,r1,r2,r3,r4⟩
 .have hss:ss=[]:=List.eq_nil_of_length_eq_zero h0
  subst hss
  have cC:CallsIn Fence.wide 6 aa 221 #[.slice none 0 0] W λe w'=>e=.returned (.slice none 0 0)/\w'=W:=callsIn_wide.2 (AnyG.slices_Compact_string_empty W7 none 0 W)
  clear cS cV hrow
  gi_wp2_with (gi_at_call 221;refine cC.mono ?_;rintro e w' ⟨rfl,rfl⟩)
  go_ret
  exact⟨rfl,hBw⟩
 .have hH:Holds encStr W gb 0 (ss.mergeSort λx y=>decide (x<=y)).toArray:=holds_of_block hgb (by simpa using r4)
  have hgl:gb<W.heap.size:=(Array.getElem?_eq_some_iff.1 hgb).1
  have cC:CallsIn Fence.wide 6 aa 221 #[.slice (some ⟨gb,0,none⟩) ss.length cap'] W λe w'=>∃m:Nat,e=.returned (.slice (some ⟨gb,0,none⟩) m cap')/\((m=ss.length)↔ss.Nodup)/\Below w.heap.size w w':=by
   have:=AnyG.slices_Compact_string W7 gb 0 cap' (ss.mergeSort λx y=>decide (x<=y)) W hH (by rw[hsz];omega) (by rw[hsz];omega)
   rw[hsz] at this
   refine callsIn_wide.2 (this.mono ?_)
   rintro e w' ⟨rfl,q,rfl⟩
   refine⟨_,rfl,HY ss,?_⟩
   have hg:=grownBy_sorted (w:=W) (g:=gb) (n:=q) (os:=#[]) (Lib.compact (ss.mergeSort λx y=>decide (x<=y))++List.replicate (ss.length-(Lib.compact (ss.mergeSort λx y=>decide (x<=y))).length) []).toArray
   rw[Vi] at hg
   exact hBw.grown hg hBw.size (λj e=>by cases e;have h:=hbase;rw[World.size_alloc] at h;omega)
  clear cS cV hrow hH
  gi_wp2_with (gi_at_call 221;refine cC.mono ?_;rintro e w' ⟨m,rfl,hm,hb'⟩)
  go_ret
  refine⟨?_,hb'⟩
  show Ending.returned (.bool ((m:Int)==(ss.length:Int)))=_
  have:((m:Int)==(ss.length:Int))=decide ss.Nodup:=by
   rw[abW]
   simp only[ab9,abn,<-hm]
   omega
  rw[this]
theorem Li (s:ByteArray):encStr s.data.toList=.string s:=by
 cases s;simp[encStr]
def names (l:List ByteArray):List (List UInt8):=l.map λs=>s.data.toList
theorem Nz {Z:Nat->Prop} {μ:Mu} {hp:Array Obj} {es:List (List V)} {x:Value} (h:aD Z μ hp (.aY es) x):
  (es=[]/\∃a cap,x=.slice a 0 cap/\(a=none->cap=0))∨(∃b off esz cap,∃c:Nat->Nat->Value,x=.slice (some ⟨b,off,none⟩) es.length cap/\Z b/\es.length<=cap /\
   (∀i,i<es.length->(es.getD i []).length=esz)/\(∀i j,i<es.length->j<esz->cellAt hp b (off+i*esz+j)=some (c i j)) /\
   (∀i j,i<es.length->j<esz->aD Z μ hp ((es.getD i []).getD j .any) (c i j))):=by
 cases h with
 | jz a cap d=>exact .inl ⟨rfl,a,cap,rfl,d⟩
 | aY _ b off esz cap c h1 e f g k=>exact .inr ⟨b,off,esz,cap,c,rfl,h1,e,f,g,k⟩
theorem WE (l:List ByteArray) (G:l.length<=1000):aC aa 155 [encS l] (gb (decide (names l).Nodup)):=by
 intro Z μ w xs g r
 obtain⟨hlen,H⟩:=g
 obtain⟨x,rfl⟩:∃x,xs=[x]:=by
  match xs,hlen with
  | [x],_=>exact⟨x,rfl⟩
 have I:aD Z μ w.heap (encS l) x:=H 0 (by simp)
 have k:(names l).length=l.length:=by simp[names]
 have fin:∀e w',(e=Ending.returned (.bool (decide (names l).Nodup))/\RowKit.Below w.heap.size w w')->∃x t,e=.returned x/\(∀E,aD t E w'.heap (gb (decide (names l).Nodup)) x)/\fa w w'/\(∀b,Z b->t b)/\(∀b,t b->Z b∨(w.heap.size<=b/\b<w'.heap.size))/\hU w.heap w'.heap (λ_=>False):=by
  rintro e w' ⟨rfl,m⟩
  exact⟨_,Z,rfl,λE=>.val _ rfl,⟨m.os,m.tape,m.output,m.size⟩,λ_ h=>h,λ_ h=>.inl h,λb u _=>m.block b u⟩
 have box:∀(v:Value),(w.alloc (.cells #[v] 23)).cell? ⟨w.heap.size,0,none⟩=some v:=λv=>by
  have:=World.alloc_heap_new w (.cells #[v] 23)
  simp only[World.cell?,this];rfl
 rcases Nz I with ⟨he,a,cap,rfl,_⟩ | ⟨b,off,esz,cap,c,rfl,J,hle,z,K,L⟩
 .have A:l=[]:=by simpa using he
  subst A
  refine(DB a cap (names []) (by simp[names]) w (λn M B C=>?_)).mono fin
  subst C
  exact No n B w.heap.size cap a _ (box _) (by simp)
 .have o:∀i,(hi:i<l.length)->(l.map λs=>[gs s]).getD i []=[gs l[i]]:=λi hi=>by simp[hi]
  have d:∀i,(hi:i<l.length)->cellAt w.heap b (off+i)=some (.string l[i]):=λi hi=>by
   have h1:=z i (by simpa using hi)
   rw[o i hi] at h1
   simp only[abl,abG] at h1
   subst h1
   have F:=K i 0 (by simpa using hi) (by omega)
   have q:=L i 0 (by simpa using hi) (by omega)
   rw[o i hi] at q
   simp only[acv] at q
   generalize c i 0=y at F q
   cases q
   simpa using F
  have f:(l.map λs=>[gs s]).length=(names l).length:=by simp[names]
  rw[f]
  refine(DB (some ⟨b,off,none⟩) cap (names l) (by rw[k];exact G) w (λn M B C=>?_)).mono fin
  subst C
  have D:=r b J
  refine Qo n B w.heap.size b off cap (names l) (by rw[k];omega) _ (box _) (by simp) (by simp;omega) (λj P=>?_)
  have p:j<l.length:=by omega
  have N:(w.alloc (.cells #[.slice (some ⟨b,off,none⟩) (names l).length cap] 23)).cell? ⟨b,off+j,none⟩=w.cell? ⟨b,off+j,none⟩:=by
   have:=Below.heap_alloc w (.cells #[.slice (some ⟨b,off,none⟩) (names l).length cap] 23) b D
   simp only[World.cell?,this]
  rw[N,jo,d j p]
  have O:(names l).getD j []=l[j].data.toList:=by simp[names,p]
  rw[O,Li]
theorem b6.jz {P:Program} {f:FuncId} {h:Heap} (h1:b6 P f [.emp 1] h (.emp 1) h) (m:b6 P f [.emp 2] h (.emp 2) h) (n:b6 P f [.eD] h (.emp 2) h):b6 P f [.aY []] h (.emp 0) h:=by
 refine⟨abg _,λZ μ F w xs l hr g=>?_⟩
 obtain⟨q,r⟩:=l
 obtain⟨x,rfl⟩:∃x,xs=[x]:=by
  match xs,q with
  | [x],_=>exact⟨x,rfl⟩
 have s:aD Z μ w.heap (.aY []) x:=r 0 (by simp)
 have one:∀v,aD Z μ w.heap v x->gI Z μ w.heap [v] [x]:=λv h=>⟨rfl,λi hi=>by
  simp at hi;subst hi;exact h⟩
 have d:∀k,b6 P f [if k=3 then .eD else .emp k] h (if k=3 then .emp 2 else .emp k) h->aD Z μ w.heap (if k=3 then .eD else .emp k) x->Calls P f [x].toArray w λe w'=>∃x j μ',e=.returned x/\aD j μ' w'.heap (.emp 0) x/\eQ j μ' w'.heap (cat h F)/\Ext Z μ w h.length j μ' w'/\(∀id,id<h.length∨h.length<=id->μ' id=μ id):=by
  intro k hk t
  refine(hk.2 Z μ F w [x] (one _ t) hr g).mono ?_
  rintro e w' ⟨y,j,μ',rfl,o,rest⟩
  refine⟨y,j,μ',rfl,?_,rest⟩
  have:∀p,aD j μ' w'.heap (.emp p) y->aD j μ' w'.heap (.emp 0) y:=λp h=>by
   cases h with | emp _ a _ _=>exact .emp 0 a (by simp) (by simp)
  split at o<;>exact this _ o
 rcases Nz s with ⟨_,a,cap,rfl,u⟩ | ⟨b,off,esz,cap,c,rfl,_,_,_⟩
 .cases a with
  | none =>
   have:=u rfl
   subst this
   exact d 1 (by simpa using h1) (.emp 1 none (by simp) (by simp))
  | some a =>
   cases cap with
   | zero=>exact d 2 (by simpa using m) (.emp 2 (some a) (by simp) (by simp))
   | succ c=>exact d 3 (by simpa using n) (.eD a (c+1))
 .cases cap with
  | zero=>exact d 2 (by simpa using m) (.emp 2 (some ⟨b,off,none⟩) (by simp) (by simp))
  | succ c=>exact d 3 (by simpa using n) (.eD ⟨b,off,none⟩ (c+1))
def BY (sz:Nat) (es:List (List V)) (H:View) (K:V->View->Prop):Prop:=
 (es=[]->∀k,K (.emp k) H)/\(es≠[]->∀n,H n=.dead->K (.sl n 0 es.length sz) (H.set n (.arr sz es)))
def dT:SF:=⟨ai [ag [bL 2 1],ai [ag [af 3 0,((some 4),.op (.nil true 0 (.tmp 3) (.val (.emp 1))))],aX 4 (ai [ag [bL 2 1],.ret])],ag [bL 5 2,af 6 0,eZ 7 1 16 5 6,af 2 7],.ret],
 [.tmp 2],8⟩
theorem eu:aJ aa 152 []=some dT:=by kernel_rfl
def en:SF:=⟨ai [ag [bL 2 1],ai [ag [af 3 0,((some 4),.op (.nil true 0 (.tmp 3) (.val (.emp 1))))],aX 4 (ai [ag [bL 2 1],.ret])],ag [bL 5 2,af 6 0,eZ 7 1 8 5 6,af 2 7],.ret],
 [.tmp 2],8⟩
theorem ew:aJ aa 140 []=some en:=by kernel_rfl
def dq:SF:=⟨ai [ag [bL 2 1],ai [ag [af 3 0,((some 4),.op (.nil true 0 (.tmp 3) (.val (.emp 1))))],aX 4 (ai [ag [bL 2 1],.ret])],ag [bL 5 2,af 6 0,eZ 7 3 32 5 6,af 2 7],.ret],
 [.tmp 2],8⟩
theorem dQ:aJ aa 163 []=some dq:=by kernel_rfl
theorem aC.tree {P:Program} {f:FuncId} {vs:List V} {t:V} (a:∀v∈vs,Tree v) (b:Tree t) (h:∀H,az P f vs H λr _=>r=t):aC P f vs t:=
 aC.of a ((h _).mono λr H' e c _=>by rw[e];exact .tree _ b)
theorem sC {H:View} : bQ H .eD=some ([],[]):=id rfl
theorem jY {H:View} (sz bytes k:Nat) (K:V->View->Prop) (w:dd (H,K)):nA sz bytes (.emp k) [] H K w=K (.emp k) H:=propext Iff.rfl
theorem RX (l:List ByteArray) (b:l.length<=100000) (H:View) (K:V->View->Prop) (hk:BY 1 (l.map λs=>[gs s]) H K):az aa 152 [encS l] H K:=by
 cases l with
 | nil =>
  have hp:∀v t,Tree v->Tree t->(∀H,az aa 152 [v] H λr _=>r=t)->aC aa 152 [v] t:=λv t c d h=>aC.tree (by intro x a;simp at a;subst a;exact c) d h
  have h1:=hp (.emp 1) (.emp 1) (.emp 1) (.emp 1) (λH=>by
   refine az.of mixed eu ?_
   simp(disch:=omega)only[↓wr,seval,wq,dT])
  have e:=hp (.emp 2) (.emp 2) (.emp 2) (.emp 2) (λH=>by
   refine az.of mixed eu ?_
   simp(disch:=omega)only[↓wr,seval,wq,dT,jY])
  have f:=hp .eD (.emp 2) .eD (.emp 2) (λH=>by
   refine az.of mixed eu ?_
   simp(disch:=omega)only[↓wr,seval,wq,dT,sC,jY])
  refine⟨by kernel_rfl,?_⟩
  rintro h rfl
  exact⟨.emp 0,h,b6.jz (b6.hX h1 h) (b6.hX e h) (b6.hX f h),.refl _,hk.1 rfl 0⟩
 | cons x r =>
  refine az.of mixed eu ?_
  simp only[abl] at b
  simp(disch:=omega)only[↓wr,seval,wq,dT,encS]
  refine⟨?_,?_,?_⟩
  .simp[aK]
  .unfold aE;simp;omega
  .intro n g
   have:=hk.2 (by simp) n g
   simp(disch:=omega)only[↓wr,seval,wq]
   simpa [df] using this
theorem UZ (l:List Int) (b:l.length<=100000) (H:View) (K:V->View->Prop) (hk:BY 1 (l.map λs=>[gi s]) H K):az aa 140 [encI l] H K:=by
 cases l with
 | nil =>
  have hp:∀v t,Tree v->Tree t->(∀H,az aa 140 [v] H λr _=>r=t)->aC aa 140 [v] t:=λv t c d h=>aC.tree (by intro x a;simp at a;subst a;exact c) d h
  have h1:=hp (.emp 1) (.emp 1) (.emp 1) (.emp 1) (λH=>by
   refine az.of mixed ew ?_
   simp(disch:=omega)only[↓wr,seval,wq,en])
  have e:=hp (.emp 2) (.emp 2) (.emp 2) (.emp 2) (λH=>by
   refine az.of mixed ew ?_
   simp(disch:=omega)only[↓wr,seval,wq,en,jY])
  have f:=hp .eD (.emp 2) .eD (.emp 2) (λH=>by
   refine az.of mixed ew ?_
   simp(disch:=omega)only[↓wr,seval,wq,en,sC,jY])
  refine⟨by kernel_rfl,?_⟩
  rintro h rfl
  exact⟨.emp 0,h,b6.jz (b6.hX h1 h) (b6.hX e h) (b6.hX f h),.refl _,hk.1 rfl 0⟩
 | cons x r =>
  refine az.of mixed ew ?_
  simp only[abl] at b
  simp(disch:=omega)only[↓wr,seval,wq,en,encI]
  refine⟨?_,?_,?_⟩
  .simp[aK]
  .unfold aE;simp;omega
  .intro n g
   have:=hk.2 (by simp) n g
   simp(disch:=omega)only[↓wr,seval,wq]
   simpa [df] using this
theorem S3 (l:List Term) (b:l.length<=100000) (H:View) (K:V->View->Prop) (hk:BY 3 (l.map df) H K):az aa 163 [fE l] H K:=by
 cases l with
 | nil =>
  have hp:∀v t,Tree v->Tree t->(∀H,az aa 163 [v] H λr _=>r=t)->aC aa 163 [v] t:=λv t c d h=>aC.tree (by intro x a;simp at a;subst a;exact c) d h
  have h1:=hp (.emp 1) (.emp 1) (.emp 1) (.emp 1) (λH=>by
   refine az.of mixed dQ ?_
   simp(disch:=omega)only[↓wr,seval,wq,dq])
  have e:=hp (.emp 2) (.emp 2) (.emp 2) (.emp 2) (λH=>by
   refine az.of mixed dQ ?_
   simp(disch:=omega)only[↓wr,seval,wq,dq,jY])
  have f:=hp .eD (.emp 2) .eD (.emp 2) (λH=>by
   refine az.of mixed dQ ?_
   simp(disch:=omega)only[↓wr,seval,wq,dq,sC,jY])
  refine⟨by kernel_rfl,?_⟩
  rintro h rfl
  exact⟨.emp 0,h,b6.jz (b6.hX h1 h) (b6.hX e h) (b6.hX f h),.refl _,hk.1 rfl 0⟩
 | cons x r =>
  refine az.of mixed dQ ?_
  simp only[abl] at b
  simp(disch:=omega)only[↓wr,seval,wq,dq,fE,df]
  refine⟨?_,?_,?_⟩
  .simp[df,aK]
  .unfold aE;simp;omega
  .intro n g
   have:=hk.2 (by simp) n g
   simp(disch:=omega)only[↓wr,seval,wq]
   simpa [df] using this
theorem BY.own {sz:Nat} {es:List (List V)} {H:View} : BY sz es H λr H'=>aN H' r sz es/\cn H H' r:=
 ⟨λhe k=>⟨by rw[he];exact .nil,.emp⟩,λ_ n a=>⟨.new,.new a⟩⟩
theorem Rr (l:List ByteArray) (a:l.length<=100000) (H:View):az aa 152 [encS l] H λr H'=>aN H' r 1 (l.map λs=>[gs s])/\cn H H' r:=RX l a H _ .own
theorem Iz (l:List Int) (a:l.length<=100000) (H:View):az aa 140 [encI l] H λr H'=>aN H' r 1 (l.map λs=>[gi s])/\cn H H' r:=UZ l a H _ .own
theorem Ue (l:List Term) (a:l.length<=100000) (H:View):az aa 163 [fE l] H λr H'=>aN H' r 3 (l.map df)/\cn H H' r:=S3 l a H _ .own
def om (g:ak):List bf->Int->Bool
 | [],next=>next==g.av.length
 | r::l,next=>decide (0<=r.left)&&decide (r.left<=next)&&kz g r&&om g l (if r.left+1>next then r.left+1 else next)
def v7 (g:ak):List ByteArray:=g.av++g.ax.map Term.name
def ub (g:ak):Bool:=
 vu g.ax&&(decide ((1:Int)<=g.av.length)&&decide ((g.av.length:Int)<=16))&&(decide ((1:Int)<=g.rules.length)&&decide ((g.rules.length:Int)<=40))&&decide (names (v7 g)).Nodup&&(decide (0<=g.start)&&decide (g.start<=(g.av.length:Int)-1)) &&
  !(g.av.any λs=>!iN (gG s))&&om g g.rules 0
theorem L0 {l:List ByteArray}:∀e∈(l.map λs=>[gs s]),∀v∈e,Tree v:=by
 intro e he v b
 obtain⟨a,_,rfl⟩:=abt.1 he
 rw[ab5] at b
 subst b
 exact .val _
theorem Ri (g:ak) (p:g.Ok) (Z:g.av.length+g.ax.length<=1000) (H:View):az aa 89 [.agg (aj g)] H λr _=>r=gb (ub g):=by
 refine az.of mixed G9 ?_
 have L:=p.av
 have M:=p.ax
 have hr:=p.rules
 unfold aG at L M hr
 simp(disch:=omega)only[↓wr,seval,wq,Dr,aj,encS]
 refine ay.cF ((Rr g.av (by omega) H).mono ?_)
 rintro u H1 ⟨hu,hf⟩
 simp(disch:=omega)only[↓wr,seval,wq]
 refine aW.up g.ax.length (λi T H=>T 1=.aR (aj g) 0/\(∃u,T 3=u/\aN H u 1 ((g.av++(g.ax.take i).map Term.name).map λs=>[gs s]))/\T 13=fE g.ax/\T 14=gi g.ax.length/\T 15=gi i) ?_ ?_
 .exact⟨rfl,⟨u,rfl,by simpa using hu⟩,rfl,rfl,rfl⟩
 rintro i k T H' hk ⟨h1,⟨u,q,hu⟩,a,c,d⟩
 simp(disch:=omega)only[↓wr,seval,wq,AZ,c,d,fE]
 apply ao.dec<;>intro B
 .have f:g.ax[i]?=some (g.ax[i]'(by omega)):=aa8 (by omega)
  have v:(g.ax.take (i+1)).map Term.name=(g.ax.take i).map Term.name++[(g.ax[i]'(by omega)).name]:=by
   rw[abr,f,abA];rfl
  generalize g.ax[i]'(by omega)=t at f v
  simp(disch:=omega)only[↓wr,seval,wq,q,a,d,fE,df,aba,f]
  intro b C
  try simp(disch:=omega)only[seval,set_set]
  intro m hm
  have D:=(cp hm cw).1
  have hm:=(cp (cp hm cw).2 cw).2
  try simp(disch:=omega)only[↓wr,seval,wq,bD]
  have J:((g.av++(g.ax.take i).map Term.name).map λs=>[gs s]).length<=1000:=by simp;omega
  refine kX (((hu.fresh C).other (hu.ne C)).fresh (by simp[View.set,hm,D])) (by simp) (by simp[aK]) (by unfold aE;simp at J ⊢;omega) (by unfold aE;simp at J ⊢;omega) ?_
  intro u' H2 E _
  simp(disch:=omega)only[↓wr,seval,wq,h1,d]
  refine aF hk (by omega) ⟨h1,⟨u',rfl,?_⟩,a,c,rfl⟩
  rw[v]
  simpa using E
 .rw[abo (by omega)] at hu
  have N:H'=H':=rfl
  have y:(v7 g).length<=1000:=by simp[v7];omega
  repeat' (first | ((first|apply ao.dec|apply ao.eq|apply ao.ne|apply ao.split)<;>intro)|(refine ay.pure (Tm g.ax p.ax) ?_)|(refine ay.pure (uQ _ _ _) ?_)|(refine ay.Av (WE (v7 g) y) (by kernel_rfl) (.val _) ⟨cm.own hu L0,trivial⟩ ?_)|(simp(disch:=omega)only[↓wr,seval,wq,h1,q,aj,encS]))
  all_goals try (simp[ub, *];done)
  rename_i O P K Q R
  refine ay.pure (Ef g.av p.av 157 [] (by simp) (λs=>!iN (gG s)) (λx _=>QG x) (by kernel_rfl)) ?_
  repeat' (first | ((first|apply ao.dec|apply ao.eq|apply ao.ne|apply ao.split)<;>intro)|(simp(disch:=omega)only[↓wr,seval,wq,h1,aj,encS]))
  all_goals try (simp[ub, *];done)
  rename_i S
  have hle:g.rules.length<=40:=by simp at K;omega
  have h:∀b,om g g.rules 0=b->gb b=gb (ub g):=λb e=>by
   simp only[ub,O,P,K,Q,R,S,e,decide_true,abQ,Bool.not_false]
  refine aW.up g.rules.length (λi T _=>∃w:Int,0<=w/\w<=i/\om g (g.rules.drop i) w=om g g.rules 0/\T 1=.aR (aj g) 0/\T 6=gi w/\T 62=.aY (g.rules.map aQ)/\T 63=gi g.rules.length/\T 64=gi i) ?_ ?_
  .exact⟨0,by omega,by omega,rfl,h1,rfl,rfl,rfl,rfl⟩
  rintro i k T H' hk ⟨w,U,V,hi,h1,A,j,l,n⟩
  simp(disch:=omega)only[↓wr,seval,wq,A5,l,n,aj]
  apply ao.dec<;>intro B
  .have f:g.rules[i]?=some (g.rules[i]'(by omega)):=aa8 (by omega)
   rw[eO (show i<g.rules.length by omega)] at hi
   have o:g.rules[i]'(by omega)∈g.rules:=abe _
   generalize g.rules[i]'(by omega)=t at f hi o
   obtain⟨⟨W,X⟩,hp,F,G⟩:=p.aB t o
   simp only[om] at hi
   simp(disch:=omega)only[↓wr,seval,wq,A,j,n,aQ,encI,aba,f]
   intro b C
   repeat' (first | ((first|apply ao.dec|apply ao.eq|apply ao.ne|apply ao.split)<;>intro)|(refine ay.pure (uQ _ _ _) ?_)|(refine ay.pure (VM g t p ⟨F,G⟩) ?_)|(simp(disch:=omega)only[↓wr,seval,wq,h1,A,n,aj,encS,set_set]))
   .rename_i z I
    have Y:0<=t.left/\t.left<=w:=by simpa using z
    rw[z,I,abQ,abQ] at hi
    have hw:IntKind.wrap .i64 (t.left+1)=t.left+1:=wrap64 (by omega) (by omega)
    refine aF hk (by omega) ⟨_,by split<;>omega,by split<;>(push_cast;omega),hi,h1,?_,j,l,rfl⟩
    show gi (if IntKind.wrap .i64 (t.left+1)>w then IntKind.wrap .i64 (t.left+1) else w)=_
    rw[hw]
   .rename_i z I
    rw[I,acK,acq] at hi
    exact h _ hi.symm
   .rename_i z
    rw[z,acq,acq] at hi
    exact h _ hi.symm
  .rw[aby (by omega)] at hi
   simp only[om] at hi
   simp(disch:=omega)only[↓wr,seval,wq,h1,A,aj,encS]
   exact h _ hi.symm
theorem QS (g:ak) (a:g.Ok) (b:g.av.length+g.ax.length<=1000):aC aa 89 [.agg (aj g)] (gb (ub g)):=aC.val (dy g) (Ri g a b)
theorem MJ (g:ak):∀(l:List bf) (next:Int),om g l next=kJ g l (next-1)
 | [],next=>by
  simp only[om,kJ]
  rw[abW];simp
 | r::l,next=>by
  simp only[om,kJ,MJ g l]
  have a:(if r.left+1>next then r.left+1 else next)-1=if r.left>next-1 then r.left else next-1:=by
   split<;>split<;>omega
  have b:next-1+1=next:=by omega
  rw[a,b]
theorem Bj (s:ByteArray):∀(l:List ByteArray) (i:Int),0<=i->(qz s l i<0/\s ∉ l)∨∃k:Nat,qz s l i=i+k/\l[k]?=some s/\∀j<k,l[j]?≠some s
 | [],i,h=>.inl ⟨by simp[qz],by simp⟩
 | x::l,i,h=>by
  have b:jM x s=true↔x=s:=by
   unfold jM
   rw[ab9]
   constructor
   .intro e;cases x;cases s;simp at e;simp[e]
   .rintro rfl;rfl
  simp only[qz]
  by_cases e:x=s
  .rw[abb (b.2 e)]
   exact .inr ⟨0,by simp,by simp[e],by simp⟩
  .rw[aa9 (λh=>e (b.1 h))]
   rcases Bj s l (i+1) (by omega) with ⟨h1,a⟩ | ⟨k,h1,a,c⟩
   .exact .inl ⟨h1,by simp[a,Ne.symm e]⟩
   .refine .inr ⟨k+1,by rw[h1];push_cast;omega,by simpa using a,λj d=>?_⟩
    cases j with
    | zero=>simp[e]
    | succ j=>simpa using c j (by omega)
theorem I0 (l:List ByteArray):(∀(k:Nat) (s:ByteArray),l[k]?=some s->qz s l 0=k)↔l.Nodup:=by
 constructor
 .intro h
  rw[List.nodup_iff_pairwise_ne,List.pairwise_iff_getElem]
  intro i j hi b d e
  have h1:=h i l[i] (by simp[hi])
  have a:=h j l[j] (by simp[b])
  rw[e] at h1
  omega
 .intro f k s hk
  rcases Bj s l 0 (by omega) with ⟨_,a⟩ | ⟨j,h1,a,g⟩
  .exact absurd (abi hk) a
  .have b:j<l.length:=by
    rcases abH j l.length with h | h
    .exact h
    .simp[abL h] at a
   have c:k<l.length:=by
    rcases abH k l.length with h | h
    .exact h
    .simp[abL h] at hk
   have:j=k:=(List.getElem_inj f).1 (by
    rw[aa8 b] at a;rw[aa8 c] at hk
    simp at a hk;rw[a,hk])
   rw[h1,this];simp
theorem bytes_inj {a b:ByteArray} : a.data.toList=b.data.toList↔a=b:=by
 constructor
 .intro h;cases a;cases b;simp at h;simp[h]
 .rintro rfl;rfl
theorem SS {l:List ByteArray} : (names l).Nodup↔l.Nodup:=by
 unfold names
 rw[List.nodup_iff_pairwise_ne,adq,List.nodup_iff_pairwise_ne]
 constructor
 .exact λh=>h.imp λh e=>h (bytes_inj.2 e)
 .exact λh=>h.imp λh e=>h (bytes_inj.1 e)
theorem sX {α:Type} [BEq α] [LawfulBEq α]:∀(l m:List α),l.Nodup->(∀x∈l,x∈m)->l.length<=m.length
 | [],m,_,_=>by simp
 | x::l,m,b,c=>by
  rw[acd] at b
  have e:x∈m:=c x (by simp)
  have:=sX l (m.erase x) b.2 (λy d=>by
   have a:y≠x:=by grind
   exact(List.mem_erase_of_ne a).2 (c y (by simp[d])))
  grind
def oe (n:Nat):List Int:=(List.range n).map λ(k:Nat)=>(k:Int)+1
theorem zW {n:Nat} {x:Int} : x∈oe n↔1<=x/\x<=n:=by
 simp only[oe,abt,ab7]
 constructor
 .grind
 .rintro⟨h1,a⟩;exact⟨(x-1).toNat,by omega,by omega⟩
theorem Kz (n:Nat):(oe n).Nodup:=by
 rw[oe,List.nodup_iff_pairwise_ne,adq]
 exact(List.nodup_range (n:=n)).imp λh e=>h (by omega)
theorem XK {l:List Int} {n:Nat} (b:l.Nodup) (c:∀x∈l,1<=x/\x<=n) (e:l.length=n) {x:Int} (h1:1<=x) (f:x<=n):x∈l:=by
 refine acF λd=>?_
 have:=sX (x::l) (oe n) (acd.2 ⟨d,b⟩) (λy a=>by
  rw[zW]
  rcases abw.1 a with rfl | a
  .grind
  .exact c y a)
 simp[oe] at this
 omega
theorem zw (n:Int):∀(l:List Term) (w:Int),w≠0->kL n l w=if (∀t∈l,t.level=n->t.assoc=w) then some w else none
 | [],w,_=>by simp[kL]
 | t::r,w,hw=>by
  simp only[kL]
  by_cases a:t.level=n
  .rw[abb a]
   by_cases b:w=t.assoc
   .rw[aa9 (by simp[b]),<-b,zw n r w hw]
    grind
   .grind
  .rw[aa9 a,zw n r w hw]
   grind
theorem Gm (n:Int):∀(l:List Term),(∀t∈l,t.level=n->t.assoc≠0)->(iX l n=true↔∃a,(∃t∈l,t.level=n)/\∀t∈l,t.level=n->t.assoc=a)
 | [],_=>by simp[iX,kL]
 | t::r,h=>by
  by_cases c:t.level=n
  .have d:=h t (by simp) c
   have e:iX (t::r) n=match (if (∀u∈r,u.level=n->u.assoc=t.assoc) then some t.assoc else none) with | some w=>w != 0 | none=>false:=by
    simp only[iX,kL]
    rw[abb c,aa9 (by simp),zw n r _ d]
    rfl
   rw[e]
   by_cases hr:∀u∈r,u.level=n->u.assoc=t.assoc
   .rw[abb hr]
    simp only[bne_iff_ne,ne_eq,d,not_false_eq_true,true_iff]
    refine⟨t.assoc,⟨t,by simp,c⟩,λu hu b=>?_⟩
    grind
   .grind
  .have i:=Gm n r (λu hu=>h u (by simp[hu]))
   have e:iX (t::r) n=iX r n:=by
    simp only[iX,kL,aa9 c]
   rw[e,i]
   constructor
   .rintro⟨a,⟨u,hu,b⟩,f⟩
    refine⟨a,⟨u,by simp[hu],b⟩,λv g b=>?_⟩
    grind
   .rintro⟨a,⟨u,hu,b⟩,f⟩
    rcases abw.1 hu with rfl | hu
    .grind
    .exact⟨a,⟨u,hu,b⟩,λv g=>f v (by simp[g])⟩
def zn (l:List Term):Prop:=∀t∈l,∀u∈l,t.level=u.level->t.level≠0->t.assoc=u.assoc
theorem Ma {κ β:Type} [BEq κ] [LawfulBEq κ] {k:κ} {v:β}:∀ {a:List (κ × β)},(a.map (·.1)).Nodup->((mf k v a).map (·.1)).Nodup/\∀x,x∈(mf k v a).map (·.1)↔x=k∨x∈a.map (·.1)
 | [],_=>by simp[mf]
 | y::a,h=>by
  simp only[abE,acd] at h
  obtain⟨h1,b⟩:=Ma (k:=k) (v:=v) h.2
  simp only[mf]
  grind
theorem B6:∀(l:List Term) (a:List (Int × Int)) (top:Int),(∀t∈l,t.level≠0->t.assoc≠0)->(∀n v,fp a n=some v->v≠0)->(a.map (·.1)).Nodup ->
  match rY l a top with
  | some (p,b)=>zn l/\(∀t∈l,∀v,t.level≠0->fp a t.level=some v->t.assoc=v)/\(p.map (·.1)).Nodup/\(∀n,n∈p.map (·.1)↔n∈a.map (·.1)∨(n≠0/\∃t∈l,t.level=n)) /\
    top<=b/\(∀t∈l,t.level≠0->t.level<=b)/\(b=top∨∃t∈l,t.level=b/\t.level≠0)
  | none=>¬ (zn l/\∀t∈l,∀v,t.level≠0->fp a t.level=some v->t.assoc=v)
 | [],a,top,_,_,i=>by
  exact⟨λt c=>by simp at c,λt c=>by simp at c,i,λn=>by simp,by omega,λt c=>by simp at c,by simp⟩
 | t::r,a,top,q,s,i=>by
  have g:∀u∈r,u.level≠0->u.assoc≠0:=λu hu=>q u (by simp[hu])
  simp only[rY]
  by_cases c:t.level=0
  .rw[abb c]
   have A:=B6 r a top g s i
   have one:zn (t::r)↔zn r:=by
    constructor
    .exact λh u hu w hw=>h u (by simp[hu]) w (by simp[hw])
    .intro h u hu w hw e f
     rcases abw.1 hu with rfl | hu
     .grind
     .rcases abw.1 hw with rfl | hw
      .grind
      .exact h u hu w hw e f
   have B:(∀u∈t::r,∀v,u.level≠0->fp a u.level=some v->u.assoc=v)↔∀u∈r,∀v,u.level≠0->fp a u.level=some v->u.assoc=v:=by
    simp[c]
   have mem:∀n,(n≠0/\∃u∈t::r,u.level=n)↔(n≠0/\∃u∈r,u.level=n):=λn=>by
    grind
   cases C:rY r a top with
   | none=>grind
   | some x =>
    grind
  .rw[aa9 c]
   have D:=q t (by simp) c
   by_cases y:(fp a t.level).getD 0≠0/\(fp a t.level).getD 0≠t.assoc
   .rw[abb y]
    rintro⟨_,j⟩
    cases hp:fp a t.level with
    | none=>grind
    | some v =>
     grind
   .rw[aa9 y]
    have z:∀v,fp a t.level=some v->t.assoc=v:=λv hp=>by
     grind
    have d:∀n,fp (mf t.level t.assoc a) n=if n=t.level then some t.assoc else fp a n:=λn=>by
     rw[Lr];simp
    have hk:=Ma (k:=t.level) (v:=t.assoc) i
    have A:=B6 r (mf t.level t.assoc a) (if t.level>top then t.level else top) g (λn v hp=>by
     rw[d] at hp
     split at hp
     .grind
     .exact s n v hp) hk.1
    have both:(zn (t::r)/\∀u∈t::r,∀v,u.level≠0->fp a u.level=some v->u.assoc=v)↔(zn r/\∀u∈r,∀v,u.level≠0->fp (mf t.level t.assoc a) u.level=some v->u.assoc=v):=by
     constructor
     .rintro⟨h1,j⟩
      refine⟨λu hu w hw=>h1 u (by simp[hu]) w (by simp[hw]),λu hu v f hp=>?_⟩
      rw[d] at hp
      split at hp
      .rename_i e
       simp at hp;rw[<-hp]
       exact h1 u (by simp[hu]) t (by simp) e f
      .grind
     .rintro⟨h1,j⟩
      have E:∀u∈r,u.level=t.level->u.assoc=t.assoc:=λu hu e=>j u hu t.assoc (by rw[e];exact c) (by rw[d,abb e])
      refine⟨λu hu w hw e f=>?_,λu hu v f hp=>?_⟩
      .rcases abw.1 hu with F | m
       .grind
       .rcases abw.1 hw with G | o
        .grind
        .exact h1 u m w o e f
      .grind
    grind
theorem E8 (l:List Term) (h:∀t∈l,nh t=true):vt l=true↔∀t∈l,∀n:Int,1<=n->n<=t.level->iX l n=true:=by
 have j:∀t∈l,0<=t.level/\(t.level≠0->t.assoc≠0):=λt b=>by
  have:=h t b
  simp only[nh,abh,abn,ab9] at this
  grind
 have k:=B6 l [] 0 (λt b=>(j t b).2) (by simp[fp]) (by simp)
 have m:∀n:Int,1<=n->(iX l n=true↔∃a,(∃t∈l,t.level=n)/\∀t∈l,t.level=n->t.assoc=a):=λn y=>Gm n l (λt b e=>(j t b).2 (by omega))
 unfold vt
 cases d:rY l [] 0 with
 | none =>
  rw[d] at k
  simp only[abI,false_iff]
  intro c
  refine k ⟨λt b u hu e o=>?_,λt b v _ hp=>by simp[fp] at hp⟩
  have h1:=j t b
  obtain⟨a,_,q⟩:=(m t.level (by omega)).1 (c t b t.level (by omega) (by omega))
  grind
 | some x =>
  obtain⟨a,top⟩:=x
  rw[d] at k
  obtain⟨i1,_,i3,i4,i5,i6,i7⟩:=k
  simp only[ab9]
  have f:∀n,n∈a.map (·.1)↔n≠0/\∃t∈l,t.level=n:=λn=>by rw[i4];simp
  have g:∀x∈a.map (·.1),1<=x/\x<=(top.toNat:Int):=λx d=>by
   grind
  constructor
  .intro hlen t b n i r
   have p:t.level<=top:=i6 t b (by omega)
   have hm:=XK i3 g (by simp;omega) i (show n<=(top.toNat:Int) by omega)
   obtain⟨o,u,hu,rfl⟩:=(f n).1 hm
   exact(m _ i).2 ⟨u.assoc,⟨u,hu,rfl⟩,λw hw e=>i1 w hw u hu e (by omega)⟩
  .intro c
   have h1:a.length<=top.toNat:=by
    have:=sX _ (oe top.toNat) i3 (λx d=>zW.2 (g x d))
    simpa [oe] using this
   have q:top.toNat<=a.length:=by
    rcases i7 with e | ⟨t,b,e,o⟩
    .grind
    .have:=sX (oe top.toNat) (a.map (·.1)) (Kz _) (λx d=>by
      rw[zW] at d
      have:=(j t b).1
      obtain⟨_,⟨u,hu,s⟩,_⟩:=(m x d.1).1 (c t b x d.1 (by omega))
      exact(f x).2 ⟨by omega,u,hu,s⟩)
     simpa [oe] using this
   omega
theorem GU (g:ak):∀(l:List Term) (i:Int),q9 g l i=true↔∀(k:Nat) (t:Term),l[k]?=some t->np g (i+k) t=true
 | [],i=>by simp[q9]
 | t::r,i=>by
  simp only[q9,abh,GU g r (i+1)]
  constructor
  .rintro⟨h1,a⟩ k u hk
   cases k with
   | zero=>simp at hk;subst hk;simpa using h1
   | succ k =>
    have:=a k u (by simpa using hk)
    rw[show i+((k+1:Nat):Int)=i+1+k by push_cast;omega];exact this
  .intro h
   refine⟨by simpa using h 0 t rfl,λk u hk=>?_⟩
   have:=h (k+1) u (by simpa using hk)
   rw[show i+1+(k:Int)=i+((k+1:Nat):Int) by push_cast;omega];exact this
theorem IN (g:ak):∀(l:List ByteArray) (i:Int),u9 g l i=true↔∀(k:Nat) (s:ByteArray),l[k]?=some s->sj g (i+k) s=true
 | [],i=>by simp[u9]
 | t::r,i=>by
  simp only[u9,abh,IN g r (i+1)]
  constructor
  .rintro⟨h1,a⟩ k u hk
   cases k with
   | zero=>simp at hk;subst hk;simpa using h1
   | succ k =>
    have:=a k u (by simpa using hk)
    rw[show i+((k+1:Nat):Int)=i+1+k by push_cast;omega];exact this
  .intro h
   refine⟨by simpa using h 0 t rfl,λk u hk=>?_⟩
   have:=h (k+1) u (by simpa using hk)
   rw[show i+1+(k:Int)=i+((k+1:Nat):Int) by push_cast;omega];exact this
theorem Jq (g:ak) (s:ByteArray):u7 g s<0↔s ∉ g.ax.map Term.name:=by
 unfold u7
 rcases Bj s (g.ax.map Term.name) 0 (by omega) with ⟨h1,a⟩ | ⟨k,h1,a,_⟩
 .exact⟨λ_=>a,λ_=>h1⟩
 .constructor
  .intro h;omega
  .intro h;exact absurd (abi a) h
theorem JH (g:ak) (t:Term):xu g t=true↔∀n:Int,1<=n->n<=t.level->iX g.ax n=true:=by
 simp only[xu,abC,ab7]
 constructor
 .intro h n h1 a
  have:=h (n-1).toNat (by omega)
  rwa [show (((n-1).toNat:Nat):Int)+1=n by omega] at this
 .intro h k hk
  exact h _ (by omega) (by omega)
theorem Q1 (g:ak):ub g=bu g:=by
 rw[abW]
 simp only[ub,bu,mQ,oD,vu,abh,abn,GU,IN,MJ,abC,adp,List.any_eq_false,SS,v7,acH,Int.zero_add,Int.zero_sub]
 have q:(∀(k:Nat) (t:Term),g.ax[k]?=some t->np g k t=true)↔(∀t∈g.ax,nh t=true)/\(g.ax.map Term.name).Nodup/\(∀t∈g.ax,xu g t=true):=by
  rw[<-I0]
  constructor
  .intro h
   have i:∀t∈g.ax,∃k:Nat,g.ax[k]?=some t:=λt d=>List.getElem?_of_mem d
   refine⟨λt d=>?_,λk s hk=>?_,λt d=>?_⟩
   .obtain⟨k,hk⟩:=i t d
    have:=h k t hk
    simp only[np,nh,abh,abn] at this ⊢
    simp[this]
   .rw[aba,abj] at hk
    obtain⟨t,hk,rfl⟩:=hk
    have:=h k t hk
    simp only[np,abh,ab9] at this
    exact this.1.1.1.1.1.1.2
   .obtain⟨k,hk⟩:=i t d
    have:=h k t hk
    simp only[np,abh] at this
    exact this.2
  .rintro⟨h1,j,l⟩ k t hk
   have hm:=abi hk
   have a:=h1 t hm
   have b:=j k t.name (by rw[aba,hk];rfl)
   have c:=l t hm
   simp only[np,nh,u7,abh,abn] at a ⊢
   simp[a,b,c]
 have r:(∀(k:Nat) (s:ByteArray),g.av[k]?=some s->sj g k s=true)↔(∀s∈g.av,iN (gG s)=true)/\g.av.Nodup/\(∀s∈g.av,s ∉ g.ax.map Term.name):=by
  rw[<-I0]
  constructor
  .intro h
   have i:∀t∈g.av,∃k:Nat,g.av[k]?=some t:=λt d=>List.getElem?_of_mem d
   refine⟨λt d=>?_,λk s hk=>?_,λt d=>?_⟩
   .obtain⟨k,hk⟩:=i t d
    have:=h k t hk
    simp only[sj,abh] at this
    exact this.1.1
   .have:=h k s hk
    simp only[sj,Hu,abh,ab9] at this
    exact this.1.2
   .obtain⟨k,hk⟩:=i t d
    have:=h k t hk
    simp only[sj,abh,abn] at this
    exact(Jq g t).1 this.2
  .rintro⟨h1,j,l⟩ k s hk
   have hm:=abi hk
   have a:=h1 s hm
   have b:=j k s hk
   have c:=(Jq g s).2 (l s hm)
   simp[sj,Hu,a,b,c]
 rw[q,r]
 constructor
 .rintro⟨⟨⟨⟨⟨⟨⟨⟨t1,t2⟩,t3⟩,v,w⟩,x,y⟩,m,a2,a3⟩,s1,s2⟩,n⟩,o⟩
  have p:=(E8 g.ax t1).1 t3
  exact⟨⟨⟨⟨⟨⟨⟨t2,t1,a2,λt d=>(JH g t).2 (p t d)⟩,⟨by omega,by omega⟩,λs f=>by simpa using n s f,m,λs f hm=>a3 s f s hm rfl⟩,by omega⟩,by omega⟩,s1⟩,by omega⟩,o⟩
 .rintro⟨⟨⟨⟨⟨⟨⟨t2,t1,a2,t3⟩,⟨v,w⟩,n,m,a3⟩,x⟩,y⟩,s1⟩,s2⟩,o⟩
  have p:=(E8 g.ax t1).2 (λt d=>(JH g t).1 (t3 t d))
  exact⟨⟨⟨⟨⟨⟨⟨⟨t1,t2⟩,p⟩,by omega,by omega⟩,by omega,by omega⟩,m,a2,λs f u hu e=>a3 s f (e▸hu)⟩,s1,by omega⟩,λs f=>by simp[n s f]⟩,o⟩
theorem pF (g:ak) (a:g.Ok) (b:g.av.length+g.ax.length<=1000):aC aa 89 [.agg (aj g)] (gb (bu g)):=by
 rw[<-Q1];exact QS g a b
def Cd (n:Nat) (r:bf):Prop:=bm r.left/\0<=r.left/\r.left<n/\r.right.length<=6/\∀s∈r.right,bm s/\(s<0->-1-s<n)
theorem ak.c5.qU {g:ak} (a:g.Ok) (h:g.c5) {r:bf} (hr:r∈g.rules):Cd g.av.length r:=
 ⟨(a.aB r hr).1,(h.left r hr).1,(h.left r hr).2,h.right r hr,λs b=>⟨(a.aB r hr).2.2.2 s b,λc=>h.neg hr b c⟩⟩
def AN:SF:=⟨ai [ag [bb 2 false],ag [af 3 0,aI 4 .geq 3 0,af 2 4],.ret],
 [.tmp 2],5⟩
theorem Em:aJ aa 235 []=some AN:=by kernel_rfl
def Dn:SF:=⟨ai [ag [bZ 1 0,bb 2 false],ag [aw 3 1 1,au 4 3,lG 5 90 [(.tmp 4),(.val (.fn 235 [] []))],cO 6 5,af 2 6],.ret],
 [.tmp 2],7⟩
theorem G2:aJ aa 175 [1]=some Dn:=by kernel_rfl
def wY:SF:=⟨ai [ag [bb 3 false],.region false [⟨none,[af 4 0,aI 5 .lss 4 0,af 6 5]⟩,⟨(some (6,true)),[au 7 1,af 8 0,((some 9),.op (.arith .sub (.val (.val (.int .i64 (-1)))) (.tmp 8))),aL 10 1 7 9,au 11 10,cO 12 11]⟩,⟨none,[dA 13 6 12,af 3 13]⟩],.ret],
 [.tmp 3],14⟩
theorem Co:aJ aa 228 []=some wY:=by kernel_rfl
def AM:SF:=⟨ai [ag [bZ 2 0,bZ 3 1,bb 4 false],ag [aw 5 1 2,au 6 5,((some 7),.op (.uh 228 [] [(.tmp 3)])),aU 8 90 [6,7],cO 9 8,af 4 9],.ret],
 [.tmp 4],10⟩
theorem EF:aJ aa 164 [2,3]=some AM:=by kernel_rfl
def uD:SF:=⟨ai [ag [bZ 2 0,bL 4 1],ai [.region false [⟨none,[aV 5 3 2,aU 6 175 [5],af 7 6]⟩,⟨(some (7,true)),[aV 8 3 2,af 9 1,aU 10 164 [8,9]]⟩,⟨none,[dA 11 7 10]⟩],aX 11 (ai [ag [aw 12 0 2,au 13 12,((some 14),.op (.bH 1 1 [(.val (.int .i64 0))] [(0,(.tmp 13))])),af 4 14],.ret])],ag [bL 4 1],.ret],
 [.tmp 4],15⟩
theorem AA:aJ aa 174 [2]=some uD:=by kernel_rfl
def rr:SF:=⟨ai [ag [bZ 2 0,bL 4 1],ai [ag [aV 5 3 2,af 6 1,aU 7 164 [5,6]],aX 7 (ai [ag [aw 8 0 2,au 9 8,((some 10),.op (.bH 1 1 [(.val (.int .i64 0))] [(0,(.tmp 9))])),af 4 10],.ret])],ag [bL 4 1],.ret],
 [.tmp 4],11⟩
theorem xZ:aJ aa 226 [2]=some rr:=by kernel_rfl
def p7:SC:=
 ai [ag [aS 24 .lss 23 22],bO 24 (.exit 0),.block 1 (ai [ag [aL 25 1 21 23,au 26 25,af 7 26],ag [af 27 7,aI 28 .lss 27 0],aX 28 (ag [af 29 5,af 30 7,((some 31),.op (.arith .sub (.val (.val (.int .i64 (-1)))) (.tmp 30))),((some 32),.op (.bH 1 1 [(.val (.int .i64 0))] [(0,(.tmp 31))])),eZ 33 1 8 29 32,af 5 33])]),ag [aI 34 .add 23 1,af 23 34]]
def tO:SF:=⟨ai [ag [bZ 3 0,bL 5 1],ai [.region false [⟨none,[af 8 1,aw 9 0 3,au 10 9,aL 11 1 8 10,au 12 11,cO 13 12,af 14 13]⟩,⟨(some (14,false)),[aV 15 3 3,au 16 2,aU 17 164 [15,16],cO 18 17]⟩,⟨none,[cJ 19 14 18]⟩],aX 19 (ai [ag [bL 5 1],.ret])],ai [ag [aw 20 1 3,au 21 20,aM 22 21,aT 23 0],bR 0 p7],ag [af 35 5,af 5 35],.ret],
 [.tmp 5],36⟩
theorem y5:aJ aa 227 [3]=some tO:=by kernel_rfl
theorem Rv (r:bf):∀v∈[V.agg (aQ r)],Tree v:=by intro v a;simp at a;subst a;exact bW _ (gh r)
theorem EP (r:bf) (is:List Bool):∀v∈[V.agg (aQ r),bY is],Tree v:=by
 intro v a;simp at a
 rcases a with rfl | rfl
 .exact bW _ (gh r)
 .exact jQ is
theorem WC (x:Int):aC aa 235 [gi x] (gb (decide (0<=x))):=by
 refine aC.val (Bn (l:=[.int .i64 x])) λH=>?_
 refine az.of mixed Em ?_
 simp(disch:=omega)only[↓wr,seval,wq,AN]
theorem Yp (r:bf) (hr:aG r.right):aC aa 175 [.agg (aQ r)] (gb (!r.right.any λs=>decide (0<=s))):=by
 refine aC.val (Rv r) λH=>?_
 refine az.of mixed G2 ?_
 simp(disch:=omega)only[↓wr,seval,wq,Dn,aQ,encI]
 refine ay.pure (ju r.right hr 235 [] (by simp) (λs=>decide (0<=s)) (λx _=>WC x) (by kernel_rfl)) ?_
 simp(disch:=omega)only[↓wr,seval,wq]
def HZ (is:List Bool) (s:Int):Bool:=decide (s<0) && !is.getD (-1-s).toNat false
theorem Q8 (is:List Bool) (s:Int) (e:bm s/\(s<0->-1-s<is.length)):aC aa 228 [gi s,.aR [bY is] 0] (gb (HZ is s)):=by
 refine aC.val ?_ λH=>?_
 .intro v a;simp at a
  rcases a with rfl | rfl
  .exact .val _
  .exact iJ (by intro v a;simp at a;subst a;exact jQ is)
 obtain⟨⟨h1,f⟩,g⟩:=e
 refine az.of mixed Co ?_
 simp(disch:=omega)only[↓wr,seval,wq,wY,bY]
 apply ao.dec<;>intro h
 .have d:is[(-1-s).toNat]?=some (is[(-1-s).toNat]'(by omega)):=aa8 (by omega)
  have c:is.getD (-1-s).toNat false=is[(-1-s).toNat]'(by omega):=by simp[d]
  generalize is[(-1-s).toNat]'(by omega)=b at d c
  simp(disch:=omega)only[↓wr,seval,wq,aba,d]
  simp only[HZ,c,h,decide_true,abQ]
 .simp(disch:=omega)only[↓wr,seval,wq]
  simp[HZ,h]
theorem P0 {is:List Bool} {l:List Int} : (!l.any (HZ is))=fB l is true:=by
 simp only[fB,List.not_any_eq_all_not]
 congr 1
 funext s
 simp only[HZ]
 by_cases h:0<=s
 .simp[h,show ¬ s<0 by omega]
 .simp[h,show s<0 by omega]
theorem wO (r:bf) (is:List Bool) (hr:aG r.right) (b:∀s∈r.right,bm s/\(s<0->-1-s<is.length)):aC aa 164 [.agg (aQ r),bY is] (gb (fB r.right is true)):=by
 rw[<-P0]
 refine aC.val (EP r is) λH=>?_
 refine az.of mixed EF ?_
 simp(disch:=omega)only[↓wr,seval,wq,AM,aQ,bY,encI]
 refine ay.pure (ju r.right hr 228 [.aR [bY is] 0] (by
  intro v a;simp at a;subst a
  exact iJ (by intro v a;simp at a;subst a;exact jQ is)) (HZ is) (λx c=>Q8 is x (b x c)) (by kernel_rfl)) ?_
 simp(disch:=omega)only[↓wr,seval,wq]
theorem MU {is:List Bool} {l:List Int} : ((!l.any λs=>decide (0<=s))&&fB l is true)=fB l is false:=by
 induction l with
 | nil=>rfl
 | cons s l a =>
  simp only[fB,acj,List.any_cons] at a ⊢
  rw[<-a]
  by_cases h:0<=s
  .simp[h]
  .simp only[h,decide_false,adb,if_false]
   cases (l.any λs=>decide (0<=s))<;>simp
theorem jq {h:Heap} {u:V} {l:List Int} (a:aN h.view u 1 (l.map λx=>[gi x])):dF h u (encI l):=dF.D3 (f:=Value.int .i64) a
theorem Lp (r:bf) (is:List Bool) (hr:Cd is.length r):bX aa 174 [.agg (aQ r),bY is] (encI (if fB r.right is false=true then [r.left] else [])):=by
 obtain⟨f,_,_,c,d⟩:=hr
 have a:aG r.right:=by unfold aG;omega
 refine bX.of (EP r is) ?_
 refine az.of mixed AA ?_
 rw[<-MU]
 simp(disch:=omega)only[↓wr,seval,wq,uD,aQ,encI]
 refine ay.pure (Yp r a) ?_
 repeat' (first | ((first|apply ao.dec|apply ao.eq|apply ao.ne|apply ao.split)<;>intro)|(refine ay.pure (wO r is a d) ?_)|(simp(disch:=omega)only[↓wr,seval,wq]))
 all_goals first
  | (intro n e b;rw[abb (by simp[*])];exact jq (l:=[r.left]) (.inr ⟨n,rfl,by rw[b];simp[View.set]⟩))
  | (intro e b;rw[aa9 (by simp[*])];exact .emp _)
theorem Hp (r:bf) (is:List Bool) (hr:Cd is.length r):bX aa 226 [.agg (aQ r),bY is] (encI (if fB r.right is true=true then [r.left] else [])):=by
 obtain⟨f,_,_,c,d⟩:=hr
 have a:aG r.right:=by unfold aG;omega
 refine bX.of (EP r is) ?_
 refine az.of mixed xZ ?_
 simp(disch:=omega)only[↓wr,seval,wq,rr,aQ,encI]
 refine ay.pure (wO r is a d) ?_
 repeat' (first | ((first|apply ao.dec|apply ao.eq|apply ao.ne|apply ao.split)<;>intro)|(simp(disch:=omega)only[↓wr,seval,wq]))
 all_goals first
  | (intro n e b;rw[abb (by simp[*])];exact jq (l:=[r.left]) (.inr ⟨n,rfl,by rw[b];simp[View.set]⟩))
  | (intro e b;rw[aa9 (by simp[*])];exact .emp _)
def iA (l:List Int):List Int:=(l.filter λs=>decide (s<0)).map λs=>-1-s
theorem UD (r:bf) (is p:List Bool):∀v∈[V.agg (aQ r),bY is,.aR [bY p] 0],Tree v:=by
 intro v a;simp at a
 rcases a with rfl | rfl | rfl
 .exact bW _ (gh r)
 .exact jQ is
 .exact iJ (by intro v a;simp at a;subst a;exact jQ p)
theorem JR (r:bf) (is p:List Bool) (hr:Cd is.length r) (hp:p.length=is.length):
  bX aa 227 [.agg (aQ r),bY is,.aR [bY p] 0] (encI (if (is.getD r.left.toNat false&&fB r.right p true)=true then iA r.right else [])):=by
 obtain⟨E,A,B,C,l⟩:=hr
 have n:aG r.right:=by unfold aG;omega
 refine bX.of (UD r is p) ?_
 refine az.of mixed y5 ?_
 have o:is[r.left.toNat]?=some (is[r.left.toNat]'(by omega)):=aa8 (by omega)
 have g:is.getD r.left.toNat false=is[r.left.toNat]'(by omega):=by simp[o]
 generalize is[r.left.toNat]'(by omega)=b at o g
 rw[g]
 simp(disch:=omega)only[↓wr,seval,wq,tO,aQ,encI,bY,aba,o]
 cases b with
 | false =>
  simp(disch:=omega)only[↓wr,seval,wq]
  intro z q
  exact .emp _
 | true =>
  simp(disch:=omega)only[↓wr,seval,wq]
  refine ay.pure (wO r p n (λs j=>⟨(l s j).1,λh=>by rw[hp];exact(l s j).2 h⟩)) ?_
  repeat' (first | ((first|apply ao.dec|apply ao.eq|apply ao.ne|apply ao.split)<;>intro)|(simp(disch:=omega)only[↓wr,seval,wq]))
  .rename_i t
   rw[abb (by simp[t])]
   refine aW.up r.right.length (λi T H=>(∃u,T 5=u/\aN H u 1 ((iA (r.right.take i)).map λx=>[gi x]))/\T 21=encI r.right/\T 22=gi r.right.length/\T 23=gi i) ?_ ?_
   .exact⟨⟨_,rfl,.nil⟩,rfl,rfl,rfl⟩
   rintro i k T H' hk ⟨⟨u,e,hu⟩,a,c,d⟩
   simp(disch:=omega)only[↓wr,seval,wq,p7,c,d,encI]
   apply ao.dec<;>intro D
   .have v:r.right[i]?=some (r.right[i]'(by omega)):=aa8 (by omega)
    have hm:r.right[i]'(by omega)∈r.right:=abe _
    have f:iA (r.right.take (i+1))=iA (r.right.take i)++iA [r.right[i]'(by omega)]:=by
     rw[abr,v,iA,adk,abA];rfl
    have hlen:(iA (r.right.take i)).length<=6:=by
     have h1:(iA (r.right.take i)).length<=(r.right.take i).length:=by simp only[iA,abc];exact acQ _ _
     have F:(r.right.take i).length<=i:=List.length_take_le _ _
     omega
    generalize r.right[i]'(by omega)=s at v hm f
    obtain⟨⟨s1,s2⟩,G⟩:=l s hm
    simp(disch:=omega)only[↓wr,seval,wq,a,d,encI,aba,v]
    apply ao.dec<;>intro w
    .simp(disch:=omega)only[↓wr,seval,wq,e]
     intro m hm
     try simp(disch:=omega)only[↓wr,seval,wq,bD]
     refine kX (hu.fresh hm) (by simp) (by simp[aK]) (by unfold aE;simp at hlen ⊢;omega) (by unfold aE;simp at hlen ⊢;omega) ?_
     intro u' I y _
     simp(disch:=omega)only[↓wr,seval,wq,d]
     refine aF hk (by omega) ⟨⟨u',rfl,?_⟩,a,c,rfl⟩
     rw[f]
     simpa [iA,w] using y
    .simp(disch:=omega)only[↓wr,seval,wq,e,d]
     refine aF hk (by omega) ⟨⟨u,e,?_⟩,a,c,rfl⟩
     rw[f]
     simpa [iA,w] using hu
   .rw[abo (by omega)] at hu
    simp(disch:=omega)only[↓wr,seval,wq,e]
    intro z q
    exact jq (by rw[q];exact hu)
  .rename_i t
   intro z q
   rw[aa9 (by simp[t])]
   exact .emp _
def uT (is:List Bool) (l:List Int):List Bool:=l.foldl (λis n=>is.set n.toNat true) is
def stepG (comes:bf->List Bool->List Int) (is:List Bool) (r:bf):List Bool:=uT is (comes r is)
def fc (comes:bf->List Bool->List Int) (rules:List bf) (is:List Bool):List Bool:=rules.foldl (stepG comes) is
def iM (a b:List Bool):Prop:=a.length=b.length/\∀i,a.getD i false=true->b.getD i false=true
theorem iM.refl (a:List Bool):iM a a:=⟨rfl,λ_ h=>h⟩
theorem iM.trans {a b c:List Bool} (h:iM a b) (k:iM b c):iM a c:=⟨h.1.trans k.1,λi hi=>k.2 i (h.2 i hi)⟩
theorem iM.set (a:List Bool) (i:Nat):iM a (a.set i true):=by
 refine⟨by simp,λj h=>?_⟩
 simp only[aa7,ab1] at h ⊢
 split
 .split
  .rfl
  .rename_i e b;rw[<-e,abL (by omega)] at h;simp at h
 .exact h
theorem Lw:∀(l:List Int) (is:List Bool),iM is (uT is l)
 | [],is=>.refl _
 | n::l,is=>(iM.set is n.toNat).trans (Lw l _)
theorem xc (comes:bf->List Bool->List Int):∀(rules:List bf) (is:List Bool),iM is (fc comes rules is)
 | [],is=>.refl _
 | r::rs,is=>(Lw _ _).trans (xc comes rs _)
def dp (a:List Bool):Nat:=a.countP λx=>x
theorem vG (a:List Bool):dp a<=a.length:=List.countP_le_length
theorem iM.dp:∀ {a b:List Bool},iM a b->dp a<=dp b/\(dp a=dp b->a=b)
 | [],[],_=>⟨abg _,λ_=>rfl⟩
 | [],_::_,h=>by simp[iM] at h
 | _::_,[],h=>by simp[iM] at h
 | x::a,y::b,h=>by
  have c:x=true->y=true:=λe=>by have:=h.2 0 (by simpa using e);simpa using this
  obtain⟨h1,d⟩:=iM.dp (a:=a) (b:=b) ⟨by simpa using h.1,λi hi=>by have:=h.2 (i+1) (by simpa using hi);simpa using this⟩
  unfold Gv.dp at h1 d ⊢
  simp only[List.countP_cons]
  cases x with
  | true =>
   have:=c rfl;subst this
   simp only[if_true]
   exact⟨by omega,λe=>by rw[d (by omega)]⟩
  | false =>
   cases y with
   | false=>simp only[abI,if_false];exact⟨by omega,λe=>by rw[d (by omega)]⟩
   | true=>simp only[abI,if_false,if_true];exact⟨by omega,λe=>by omega⟩
def je (comes:bf->List Bool->List Int) (rules:List bf):Nat->List Bool->List Bool
 | 0,is=>is
 | k+1,is=>if fc comes rules is=is then is else je comes rules k (fc comes rules is)
theorem xz (comes:bf->List Bool->List Int) (rules:List bf):∀(k:Nat) (is:List Bool),is.length<=dp is+k->fc comes rules (je comes rules k is)=je comes rules k is/\iM is (je comes rules k is)
 | 0,is,h=>by
  have h1:=xc comes rules is
  have b:=vG (fc comes rules is)
  have a:=h1.dp
  rw[<-h1.1] at b
  have c:=vG is
  exact⟨(a.2 (by omega)).symm,.refl _⟩
 | k+1,is,h=>by
  simp only[je]
  by_cases e:fc comes rules is=is
  .rw[abb e];exact⟨e,.refl _⟩
  .rw[aa9 e]
   have h1:=xc comes rules is
   have a:=h1.dp
   have:dp is<dp (fc comes rules is):=by
    rcases abH (dp is) (dp (fc comes rules is)) with h | h
    .exact h
    .exact absurd (a.2 (by omega)).symm e
   obtain⟨g1,g2⟩:=xz comes rules k (fc comes rules is) (by rw[<-h1.1];omega)
   exact⟨g1,h1.trans g2⟩
def AX:SC:=
 ai [ag [aS 26 .lss 25 24],bO 26 (.exit 4),.block 5 (ai [ag [aL 27 1 23 25,au 28 27,af 11 28],.region false [⟨none,[af 29 7,af 30 29]⟩,⟨(some (30,false)),[af 31 1,af 32 11,aL 33 1 31 32,au 34 33,cO 35 34]⟩,⟨none,[cJ 36 30 35,af 7 36]⟩],ag [af 37 1,af 38 11,aL 39 1 37 38,(none,.op (.store 1 (.tmp 39) (.val (.val (.bool true)))))]]),ag [aI 40 .add 25 1,af 25 40]]
def AY:SC:=
 ai [ag [aS 17 .lss 16 15],bO 17 (.exit 2),.block 3 (ai [ag [aL 18 3 14 16,aV 19 3 18,((some 9),.op (.alloc [(.val (.int .i64 0)),(.emp 1),(.val (.int .i64 0))])),cz 3 9 19],ag [af 20 2,aV 21 3 9,af 22 1,((some 23),.call (.tmp 20) [(.tmp 21),(.tmp 22)]),aM 24 23,aT 25 0],bR 4 AX]),ag [aI 41 .add 16 1,af 16 41]]
def um:SC:=
 ai [ai [ag [af 12 7],bO 12 (.exit 0)],.block 1 (ai [ag [bb 7 false],ag [aw 13 2 3,au 14 13,aM 15 14,aT 16 0],bR 2 AY])]
def Du:SF:=⟨ai [ag [bZ 3 0,bL 6 1],ai [ag [bb 7 true],bR 0 um],ag [af 42 1,af 6 42],.ret],
 [.tmp 6],43⟩
theorem HG:aJ aa 173 [3]=some Du:=by kernel_rfl
theorem Vx {is:List Bool} {i:Nat} (h:is.getD i false=true):is.set i true=is:=by
 apply List.ext_getElem?
 intro j
 simp only[aa7] at h
 rw[ab1]
 split
 .rename_i e;subst e
  split
  .rename_i a;rw[aa8 a] at h ⊢;simp at h;simp[h]
  .rename_i a;rw[abL (by omega)] at h;simp at h
 .rfl
theorem QD {comes:bf->List Bool->List Int} {rules:List bf} {k:Nat} {is:List Bool} (h:fc comes rules is=is):je comes rules k is=is:=by
 cases k with
 | zero=>rfl
 | succ k=>simp only[je,h,if_true]
theorem QB {comes:bf->List Bool->List Int} {rules:List bf} {k:Nat} {is:List Bool} (h:¬ fc comes rules is=is) (hk:is.length<=dp is+k):∃j,k=j+1/\je comes rules k is=je comes rules j (fc comes rules is)/\(fc comes rules is).length<=dp (fc comes rules is)+j:=by
 have h1:=xc comes rules is
 have a:=h1.dp
 have b:=vG (fc comes rules is)
 have:dp is<dp (fc comes rules is):=by
  rcases abH (dp is) (dp (fc comes rules is)) with h | h
  .exact h
  .exact absurd (a.2 (by omega)).symm (by assumption)
 have c:=h1.1
 obtain⟨j,rfl⟩:∃j,k=j+1:=⟨k-1,by omega⟩
 exact⟨j,rfl,by simp only[je];rw[aa9 h],by omega⟩
theorem VG {a is:List Bool} {i:Nat} {b:Bool} (hle:iM a is) (hi:i<is.length) (d:b = !decide (is=a)):(b || !is.getD i false) = !decide (is.set i true=a):=by
 cases c:is.getD i false with
 | true=>rw[Vx c,d];simp
 | false =>
  have:¬ is.set i true=a:=λe=>by
   have h1:(is.set i true).getD i false=true:=by simp[hi]
   rw[e] at h1
   have:=hle.2 i h1
   rw[c] at this;simp at this
  simp[this]
theorem HK (g:ak) (hr:g.rules.length<=40) (comes:bf->List Bool->List Int) (f:FuncId) (t D:List V) (al:eh aa f=true) (N:Nat) (hN:N<=16)
  (hc:∀r∈g.rules,∀is:List Bool,is.length=N->bX aa f (.agg (aQ r)::bY is::D) (encI (comes r is))/\(comes r is).length<=100/\∀n∈comes r is,bm n/\0<=n/\n<N)
  (id:Nat) (A:List Bool) (an:A.length=N) (H:View) (hH:H id=.arr 1 (bU A)) (O:∀H':View,(∀k,H k≠.dead->k≠id->H' k=H k)->sF H' t D):
  az aa 173 [.agg (aj g),.sl id 0 N 1,.fn f [] t] H λr H'=>r=.sl id 0 N 1/\H' id=.arr 1 (bU (je comes g.rules 16 A))/\∀k,H k≠.dead->k≠id->H' k=H k:=by
 refine az.of mixed HG ?_
 simp(disch:=omega)only[↓wr,seval,wq,Du,aj,encS]
 refine aW.intro (λk T H'=>∃is:List Bool,is.length=N/\H' id=.arr 1 (bU is)/\(∀k,H k≠.dead->k≠id->H' k=H k)/\T 1=.sl id 0 N 1/\T 2=.fn f [] t/\T 3=.aR (aj g) 0 /\
  ((T 7=gb true/\∃j,k=j+1/\je comes g.rules j is=je comes g.rules 16 A/\N<=dp is+j)∨(T 7=gb false/\is=je comes g.rules 16 A))) 17 ?_ ?_
 .exact⟨A,an,hH,λ_ _ _=>rfl,rfl,rfl,rfl,.inl ⟨rfl,16,rfl,rfl,by omega⟩⟩
 rintro k T H1 ⟨is,hlen,o,p,t1,t2,t3,u⟩
 rcases u with ⟨u,j,rfl,J,hj⟩ | ⟨u,J⟩
 .simp(disch:=omega)only[↓wr,seval,wq,um,t3,u,aj,encS]
  refine aW.up g.rules.length (λi T H'=>∃rv:List Bool,rv.length=N/\iM is rv/\rv=(g.rules.take i).foldl (stepG comes) is/\H' id=.arr 1 (bU rv)/\(∀k,H k≠.dead->k≠id->H' k=H k)/\T 1=.sl id 0 N 1/\T 2=.fn f [] t/\T 3=.aR (aj g) 0 /\
   T 7=gb (!decide (rv=is))/\T 14=.aY (g.rules.map aQ)/\T 15=gi g.rules.length/\T 16=gi i) ?_ ?_
  .exact⟨is,hlen,.refl _,rfl,o,p,t1,t2,t3,by simp;rfl,rfl,rfl,rfl⟩
  clear t1 t2 t3 u o p
  rintro i k T H1 hk ⟨rv,s,W,P,o,p,t1,t2,t3,u,c,d,m⟩
  simp(disch:=omega)only[↓wr,seval,wq,AY,d,m,aj,encS]
  apply ao.dec<;>intro aq
  .have Q:g.rules[i]?=some (g.rules[i]'(by omega)):=aa8 (by omega)
   have M:g.rules[i]'(by omega)∈g.rules:=abe _
   have X:(g.rules.take (i+1)).foldl (stepG comes) is=stepG comes ((g.rules.take i).foldl (stepG comes) is) (g.rules[i]'(by omega)):=by
    rw[abr,Q,acM];rfl
   generalize g.rules[i]'(by omega)=r at Q M X
   obtain⟨ar,a6,Y⟩:=hc r M rv s
   simp(disch:=omega)only[↓wr,seval,wq,t1,t2,c,m,aQ,encI,aba,Q]
   intro b R
   have E:b≠id:=by rintro rfl;rw[o] at R;simp at R
   try simp(disch:=omega)only[↓wr,seval,wq,t1,t2,t3,u,c,d,m]
   refine ay.gV ar al ⟨cm.tree (bW _ (gh r)),Gq (by simp[View.set,E.symm,o]) s.symm,O _ (λk hk v=>?_)⟩ ?_
   .have S:k≠b:=by
     rintro rfl
     rw[p k hk v] at R
     exact hk R
    simp[View.set,S,p k hk v]
   generalize hl:comes r rv=l at a6 Y
   simp(disch:=omega)only[↓wr,seval,wq,encI]
   refine aW.up l.length (λq T H'=>∃a:List Bool,a.length=N/\iM is a/\a=uT rv (l.take q)/\H' id=.arr 1 (bU a)/\(∀k,H k≠.dead->k≠id->H' k=H k)/\T 1=.sl id 0 N 1/\T 2=.fn f [] t/\T 3=.aR (aj g) 0 /\
    T 7=gb (!decide (a=is))/\T 14=.aY (g.rules.map aQ)/\T 15=gi g.rules.length/\T 16=gi i/\T 23=encI l/\T 24=gi l.length/\T 25=gi q) ?_ ?_
   .refine⟨rv,s,W,rfl,by simp[View.set,E.symm,o],λk hk v=>?_,t1,t2,t3,u,c,d,m,rfl,rfl,rfl⟩
    have S:k≠b:=by
     rintro rfl
     rw[p k hk v] at R
     exact hk R
    simp[View.set,S,p k hk v]
   clear t1 t2 t3 u c d m o p R E
   rintro q k2 T H1 a8 ⟨a,F,G,I,o,p,t1,t2,t3,u,c,d,m,w,y,B⟩
   simp(disch:=omega)only[↓wr,seval,wq,AX,y,B,encI]
   apply ao.dec<;>intro bd
   .have U:l[q]?=some (l[q]'(by omega)):=aa8 (by omega)
    have Z:l[q]'(by omega)∈l:=abe _
    have ab:uT rv (l.take (q+1))=(uT rv (l.take q)).set (l[q]'(by omega)).toNat true:=by
     unfold uT;rw[abr,U,acM];rfl
    generalize l[q]'(by omega)=n at U Z ab
    obtain⟨⟨n1,n2⟩,n3,n4⟩:=Y n Z
    have ae:a.getD n.toNat false=a[n.toNat]'(by omega):=by simp[show n.toNat<a.length by omega]
    have z:=VG G (show n.toNat<a.length by omega) (b:=!decide (a=is)) rfl
    rw[ae] at z
    have K:=mH (show n.toNat<a.length by omega)
    generalize a[n.toNat]'(by omega)=x at z K ae
    have fin:∀(C:Env),C 7=gb (!decide (a.set n.toNat true=is))->C 1=.sl id 0 N 1->C 2=.fn f [] t->C 3=.aR (aj g) 0->C 14=.aY (g.rules.map aQ)->C 15=gi g.rules.length->C 16=gi i->C 23=encI l->C 24=gi l.length->C 25=gi ((q:Int)+1) ->
      ∃k',k'<k2/\FL l.length k' (λq T H'=>∃a:List Bool,a.length=N/\iM is a/\a=uT rv (l.take q)/\H' id=.arr 1 (bU a)/\(∀k,H k≠.dead->k≠id->H' k=H k)/\T 1=.sl id 0 N 1/\T 2=.fn f [] t/\T 3=.aR (aj g) 0 /\
       T 7=gb (!decide (a=is))/\T 14=.aY (g.rules.map aQ)/\T 15=gi g.rules.length/\T 16=gi i/\T 23=encI l/\T 24=gi l.length/\T 25=gi q) C (H1.set id (.arr 1 (bU (a.set n.toNat true)))):=by
     intro C a7 a1 a2 a3 bl bn br a23 a24 a25
     refine aF a8 (by omega) ⟨a.set n.toNat true,by simp[F],G.trans (.set _ _),by rw[ab,<-I],by simp[View.set],λk hk v=>by simp[View.set,v,p k hk v],a1,a2,a3,a7,bl,bn,br,a23,a24,by rw[a25];rfl⟩
    simp(disch:=omega)only[↓wr,seval,wq,u,w,B,encI,aba,U]
    apply ao.dec<;>intro e
    .simp(disch:=omega)only[↓wr,seval,wq,t1,t2,t3,m,B,o,K]
     refine⟨by omega,by omega,?_⟩
     try simp(disch:=omega)only[↓wr,seval,wq,t1,t2,t3,u,c,d,m,w,y,B,encI,o,K,abc]
     refine⟨by omega,by omega,?_⟩
     rw[iG]
     exact fin _ (by rw[<-z];simp[e];rfl) t1 t2 t3 c d m w y rfl
    .simp(disch:=omega)only[↓wr,seval,wq,t1,t2,t3,m,B,o,K]
     refine⟨by omega,by omega,?_⟩
     rw[iG]
     exact fin _ (by rw[<-z];simp[e];rfl) t1 t2 t3 c d m w y rfl
   .rw[abo (by omega)] at I
    simp(disch:=omega)only[↓wr,seval,wq,t1,t2,t3,u,m]
    refine aF hk (by omega) ⟨a,F,G,?_,o,p,t1,t2,t3,u,c,d,rfl⟩
    rw[X,<-P,stepG,hl,<-I]
  .rw[abo (by omega)] at P
   simp(disch:=omega)only[↓wr,seval,wq,t1,t2,t3,u]
   have L:rv=fc comes g.rules is:=P
   by_cases e:rv=is
   .refine⟨0,by omega,rv,s,o,p,rfl,.inr ⟨by simp[e],?_⟩⟩
    rw[<-J,e]
    exact(QD (by rw[<-L];exact e)).symm
   .obtain⟨j2,rfl,e2,e3⟩:=QB (k:=j) (λh=>e (L.trans h)) (by rw[hlen];exact hj)
    refine⟨j2+1,by omega,rv,s,o,p,rfl,.inl ⟨by simp[e],j2,rfl,?_,?_⟩⟩
    .rw[<-J,e2,L]
    .rw[<-L,s] at e3;exact e3
 .simp(disch:=omega)only[↓wr,seval,wq,um,t1,u,aj,encS]
  exact⟨J▸o,p⟩
end Gv

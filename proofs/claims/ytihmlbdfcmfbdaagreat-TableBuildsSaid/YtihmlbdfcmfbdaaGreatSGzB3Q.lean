/-
  Part 17 of the proof: what the machine does and what the functions answer.
  Conditions: those that each lemma names.
-/
import Derived.Test.YtihmlbdfcmfbdaaGreatSGzB3P
set_option linter.unusedSimpArgs false
set_option linter.unusedVariables false
set_option maxRecDepth 100000
set_option maxHeartbeats 20000000
namespace Gv
open Go Go.Proofs
def wT (ws:List (Int × Int)) (x:Int × Int):Nat:=(cR (λy=>y == x) ws 0).toNat
theorem ky {ws:List (Int × Int)} {x:Int × Int} (h:x∈ws):ws[wT ws x]?=some x:=by
 unfold wT
 rcases GW (λy=>y == x) ws 0 (Int.le_refl _) with h1 | ⟨k,y,h1,b,a,_⟩
 .have:=Ie _ ws 0 (Int.le_refl _) h1 x h
  simp at this
 .rw[h1,show ((0:Int)+(k:Int)).toNat=k by omega,b]
  simp at a
  rw[a]
theorem KN {ws:List (Int × Int)} (a:ws.Nodup) {k:Nat} {x:Int × Int} (h:ws[k]?=some x):wT ws x=k:=by
 have h1:=ky (Zp h)
 exact(List.getElem?_inj (Zy.1 h1).1 a).1 (h1.trans h.symm)
section
variable {g:aj} {a:List aM}
theorem dB {p:Nat} {B:Int} : ((p:Int),B)∈bk a↔0<=B/\fa a p (-1 - B):=by
 simp only[bk,lL,List.mem_flatMap,aap,j9,ZF,aag,ZA,Zo,fa]
 constructor
 .rintro⟨i,hi,e,⟨h1,b⟩,c,d⟩
  have:i=p:=by omega
  subst this
  exact⟨by omega,e,h1,by omega⟩
 .rintro⟨f,e,h1,b⟩
  exact⟨p,(Cj h1).1,e,⟨h1,by omega⟩,rfl,by omega⟩
theorem vq {x:Int × Int} (h:x∈bk a):∃ p:Nat,x=((p:Int),x.2):=by
 simp only[bk,lL,List.mem_flatMap,aap,j9,ZF] at h
 obtain⟨i,_,e,_,rfl⟩:=h
 exact⟨i,rfl⟩
theorem Qe {i:Nat} {l:List cn} (h:(l.map cn.sym).Nodup):(j9 i l).Nodup:=by
 unfold j9
 have h1:((l.filter λe=>decide (e.sym < 0)).map cn.sym).Nodup:=(List.Sublist.map _ List.filter_sublist).nodup h
 unfold List.Nodup at h1 ⊢
 rw[abj] at h1 ⊢
 exact h1.imp λa e=>a (by simp only[Zo] at e;omega)
theorem BC (h:cL g a):(bk a).Nodup:=by
 have key:∀ n,n<=a.length->(lL a n).Nodup/\∀ x∈lL a n,x.1 < n:=by
  intro n
  induction n with
  | zero=>intro _;simp[lL]
  | succ n i =>
   intro l
   obtain⟨h1,c⟩:=i (by omega)
   rw[zC]
   have hm:=Zp (getD_some (d:=bg) (show n < a.length by omega))
   have j:(j9 n (a.getD n bg).aK).Nodup:=Qe (by rw[h.x.all _ hm];exact w7 _ _ _)
   have f:∀ x∈j9 n (a.getD n bg).aK,x.1=n:=λx b=>by
    simp only[j9,ZF] at b
    obtain⟨e,_,rfl⟩:=b;rfl
   refine⟨aak.2 ⟨h1,j,λx b y k e=>?_⟩,λx b=>?_⟩
   .have:=c x b
    have:=f y k
    rw[e] at *
    omega
   .rcases ZN.1 b with b | b
    .have:=c x b;push_cast;omega
    .have:=f x b;push_cast;omega
 exact(key a.length (Zt _)).1
theorem rn (b:cL g a):1<=(bk a).length:=by
 have c:fa a 0 (-1 - g.start):=(b.oC (by have:=b.pos;omega)).2 ⟨⟨-1,0⟩,(df b.dq (b.bf (by have:=b.pos;omega))).2 (.base (by rw[b.e.first];simp)),by
  unfold bA;rw[Zk (by simp[aW])];simp[aW]⟩
 have:=dB.2 ⟨b.dq.nM,c⟩
 exact List.length_pos_of_mem this
def pJ (b:BV) (l:List cn):BV:=l.foldl (λb e=>if 0<=e.sym then b ||| dQ e.sym else b) b
def qo (g:aj) (x:Int × Int):BV:=if x.1=0/\x.2=g.start then dQ g.af.length else 0
def uQ (g:aj) (ws:List (Int × Int)) (q:Nat) (l:List cn):List Nat:=(l.filter λe=>decide (e.sym < 0) && (av g false).getD (-1 - e.sym).toNat false).map λe=>wT ws ((q:Int),-1 - e.sym)
def s8 (g:aj) (a:List aM) (x:Int × Int):BV:=pJ (qo g x) (a.getD (eK a x.1.toNat (-1 - x.2)) bg).aK
def ot (g:aj) (a:List aM) (x:Int × Int):List Nat:=uQ g (bk a) (eK a x.1.toNat (-1 - x.2)) (a.getD (eK a x.1.toNat (-1 - x.2)) bg).aK
theorem Hq {t:Nat} : ∀ (l:List cn) (b:BV),(pJ b l).getLsbD t=true↔b.getLsbD t=true∨∃ e∈l,0<=e.sym/\(dQ e.sym).getLsbD t=true
 | [],b=>by simp[pJ]
 | e :: l,b=>by
  have c:=Hq (t:=t) l (if 0<=e.sym then b ||| dQ e.sym else b)
  unfold pJ at c ⊢
  rw[ZS,c]
  by_cases h:0<=e.sym
  .rw[Zn h,Z5,aam]
   constructor
   .rintro ((h1 | h1) | ⟨x,h1,a⟩)
    .exact .inl h1
    .exact .inr ⟨e,by simp,h,h1⟩
    .exact .inr ⟨x,by simp[h1],a⟩
   .rintro (h1 | ⟨x,h1,a⟩)
    .exact .inl (.inl h1)
    .rcases Zz.1 h1 with rfl | h1
     .exact .inl (.inr a.2)
     .exact .inr ⟨x,h1,a⟩
  .rw[Zk h]
   constructor
   .rintro (h1 | ⟨x,h1,a⟩)
    .exact .inl h1
    .exact .inr ⟨x,by simp[h1],a⟩
   .rintro (h1 | ⟨x,h1,a⟩)
    .exact .inl h1
    .rcases Zz.1 h1 with rfl | h1
     .exact absurd a.1 h
     .exact .inr ⟨x,h1,a⟩
abbrev dC (a:List aM) (x:Nat):Int × Int:=(bk a).getD x (0,0)
theorem DB (c:cL g a) {p t:Nat} {B:Int} (he:fa a p (-1 - B)):(s8 g a ((p:Int),B)).getLsbD t=true↔(p=0/\B=g.start/\t=g.af.length)∨(t < g.af.length/\fa a (eK a p (-1 - B)) t):=by
 have j:=c.dq.af
 obtain⟨_,_,_,_,hq,_⟩:=c.eK he
 unfold s8
 simp only[ZK]
 rw[Hq]
 refine or_congr ?_ ?_
 .unfold qo
  simp only
  split
  .rename_i h
   rw[vu (by omega)]
   exact⟨λb=>⟨by omega,h.2,b⟩,λb=>b.2.2⟩
  .rename_i h
   exact⟨λb=>by simp at b,λb=>absurd ⟨by omega,b.2.1⟩ h⟩
 .constructor
  .rintro⟨e,h1,b,d⟩
   have hE:fa a (eK a p (-1 - B)) e.sym:=⟨e,h1,rfl⟩
   obtain⟨y,f,i⟩:=(c.oC hq).1 hE
   have l:=rl (om c.dq (c.has hq f) i)
   obtain⟨k,hk⟩:∃ k:Nat,e.sym=k:=⟨e.sym.toNat,by omega⟩
   rw[hk,vu (by omega)] at d
   subst d
   exact⟨by omega,by rw[<-hk];exact hE⟩
  .rintro⟨h1,e,b,d⟩
   exact⟨e,b,by omega,by rw[d,vu (by omega)]⟩
theorem Dt (f:cL g a) {p y:Nat} {B:Int} (_:fa a p (-1 - B)):y∈ot g a ((p:Int),B)↔∃ C:Int,0<=C/\(av g false).getD C.toNat false=true/\fa a (eK a p (-1 - B)) (-1 - C)/\(bk a)[y]?=some ((eK a p (-1 - B):Int),C):=by
 unfold ot uQ
 simp only[ZK,ZF,aag,Zw,ZA]
 constructor
 .rintro⟨e,⟨h1,c,b⟩,rfl⟩
  have hE:fa a (eK a p (-1 - B)) (-1 - (-1 - e.sym)):=⟨e,h1,by omega⟩
  exact⟨-1 - e.sym,by omega,b,hE,ky (dB.2 ⟨by omega,hE⟩)⟩
 .rintro⟨C,h1,c,⟨e,b,d⟩,h⟩
  refine⟨e,⟨b,by omega,by rw[d,show -1 - (-1 - C)=C by omega];exact c⟩,?_⟩
  rw[d,show -1 - (-1 - C)=C by omega]
  exact KN (BC f) h
theorem NN (c:cL g a) {x:Nat} (d:x < (bk a).length):∀ y∈ot g a (dC a x),y < (bk a).length:=λy b=>by
 have e:(bk a)[x]?=some (dC a x):=getD_some d
 have hm:=Zp e
 obtain⟨p,hp⟩:=vq hm
 rw[hp] at hm b
 obtain⟨_,_,_,_,h⟩:=(Dt c (dB.1 hm).2).1 b
 exact(Zy.1 h).1
theorem QW (e:cL g a) {x t:Nat} {p:Nat} {B:Int} (c:(bk a)[x]?=some ((p:Int),B)):mF (λx=>ot g a (dC a x)) (λx=>s8 g a (dC a x)) x t↔qx g a p B t:=by
 have b:∀ {x:Nat} {y:Int × Int},(bk a)[x]?=some y->dC a x=y:=λ{x y} h=>by
  rw[dC,Zi,h];rfl
 constructor
 .rintro⟨w,hr,hw⟩
  induction hr generalizing p B with
  | refl =>
   have he:=(dB.1 (Zp c)).2
   simp only at hw
   rw[b c] at hw
   rcases (DB e he).1 hw with ⟨rfl,rfl,rfl⟩ | ⟨h1,d⟩
   .exact .fin
   .exact .term h1 d
  | @step x y w j hr f =>
   have he:=(dB.1 (Zp c)).2
   rw[b c] at j
   obtain⟨C,h1,d,i,k⟩:=(Dt e he).1 j
   exact .null h1 i d (f k hw)
 .intro h
  induction h generalizing x with
  | fin =>
   have he:=(dB.1 (Zp c)).2
   exact⟨x,.refl,by simp only;rw[b c];exact(DB e he).2 (.inl ⟨rfl,rfl,rfl⟩)⟩
  | @term p B t h1 d =>
   have he:=(dB.1 (Zp c)).2
   exact⟨x,.refl,by simp only;rw[b c];exact(DB e he).2 (.inr ⟨h1,d⟩)⟩
  | @null p B C t h1 d i k f =>
   have he:=(dB.1 (Zp c)).2
   have hm:=ky (dB.2 ⟨h1,d⟩)
   obtain⟨w,l,k2⟩:=f hm
   exact⟨w,.step (by rw[b c];exact(Dt e he).2 ⟨C,h1,i,d,hm⟩) l,k2⟩
end
def ja (l:List UInt8):Value:=.string ⟨l.toArray⟩
theorem Ji {a b:List UInt8} : ((⟨a.toArray⟩:ByteArray) == ⟨b.toArray⟩)=(a == b):=by
 show (a.toArray == b.toArray)=_
 simp
theorem Lk {P:Program} {kt:TypeId} (h:P.underlying kt=some .string):Db P kt ja where
 ty:=⟨_,h,λa b=>by simp only[Instr.sameNow,ja,Ji],λa e=>zD h trivial e 9999 _⟩
 bits:=λa b c=>by
  have:a=b:=by simpa using c
  subst this
  show ((⟨a.toArray⟩:ByteArray) == ⟨a.toArray⟩)=true
  rw[Ji];simp
def rE (l:List aB):List Int:=l.flatMap λx=>[x.aw+1,x.dot]
theorem Tz (l:List aB):(rE l).length=2 * l.length:=by
 induction l with
 | nil=>rfl
 | cons x l a=>simp only[rE,List.flatMap_cons,aab,ZB,ZW] at a ⊢;omega
theorem Es:∀ l:List aB,mo ((rE l).map λn=>[gy n])=some (gO l)
 | []=>rfl
 | x :: l=>by
  have a:=Es l
  simp only[rE,gO,List.flatMap_cons,Z4,aar,ZJ,mo] at a ⊢
  rw[a];rfl
theorem VE {x:Int} (h1:0<=x) (c:x < 256):IntKind.wrap .u8 x=x:=by
 unfold IntKind.wrap
 have a:(2:Int) ^ IntKind.u8.bits=256:=by rfl
 have b:IntKind.u8.signed=false:=by rfl
 simp only[a,b,aa0,ZM,if_false]
 omega
theorem WZ {P:Program} {T:Env} {H:View} {K:V->View->Prop} {w:cO (T,H,K)} {t e d ty:TypeId} {x:Operand} {u:V} {xs:List (List V)} {rd:List Nat} {l:List UInt8} {k:Nat} (hu:P.underlying t=some (.slice e)) (he:P.underlying e=some (.int .u8)) (hd:P.underlying d=some .string)
  (a:ev T x=u) (hl:bR H u=some (xs,rd)) (b:cT u=some k) (c:mo xs=some l) (hk:K (.val (ja l)) H):j5 P (.convert t d x) ty T H K w:=by
 intro n _
 have f:lS P t d=true:=by simp[lS,hu]
 refine⟨.val (ja l),.none,rd,?_,hk⟩
 simp only[sI,cx,oper]
 rw[Zn f,a]
 simp[ov,hu,he,hd,hl,b,c,ja]
def x6:SC :=
 ae [ab [aS 15 .lss 14 13],bT 15 (.exit 0),.block 1 (ae [ab [aH 16 2 12 14,aT 17 2 16,((some 7),.op (.alloc [(.val (.int .i64 0)),(.val (.int .i64 0))])),bK 2 7 17],ab [aT 19 4 2,aT 20 2 7,bh 21 50 [19,20],aa 18 21,dW 22 0 18,dW 23 1 18,aa 8 22,aa 9 23],ab [aa 24 9],bc 24 (ae [ab [aT 25 4 2,aa 26 8,bh 27 111 [25,26],aa 10 27],ab [aa 28 5,aa 29 10,aa 30 5,aa 31 10,((some 32),.op (.old (.lookup 98 (.tmp 30) (.tmp 31) false) 27)),ao 33 0 7,ai 34 33,ao 35 1 7,ai 36 35,aG 37 .add 36 1,((some 38),.op (.build [(.val (.int .i64 0)),(.val (.int .i64 0))] [(0,1,(.tmp 34)),(1,1,(.tmp 37))])),((some 39),.op (.bO 1 2 [(.val (.int .i64 0)),(.val (.int .i64 0))] [(0,(.tmp 38))])),eE 40 2 16 32 39,(none,.op (.old (.mapUpdate 98 (.tmp 28) (.tmp 29) (.tmp 40)) 0))]])]),ab [aG 41 .add 14 1,aa 14 41]]
def BX:SF:=⟨ae [ab [cw 2 0,((some 4),.op (.er (.val (.val (.map none)))))],ab [((some 11),.op (.pA)),aa 5 11],ae [ab [aa 12 1,aP 13 12,aQ 14 0],bU 0 x6],ab [aa 42 5,aa 4 42],.ret],
 [.tmp 4],43⟩
theorem E8:aN Tryz.prog 63 [2]=some BX:=by kernel_rfl
def AQ:SC :=
 ae [ab [aS 9 .lss 8 7],bT 9 (.exit 0),.block 1 (ae [ab [aH 10 2 6 8,aT 11 2 10,((some 5),.op (.alloc [(.val (.int .i64 0)),(.val (.int .i64 0))])),bK 2 5 11],ab [aa 12 3,ao 13 0 5,ai 14 13,aG 15 .add 14 1,((some 16),.op (.conv .u8 (.tmp 15))),ao 17 1 5,ai 18 17,((some 19),.op (.conv .u8 (.tmp 18))),((some 20),.op (.bO 2 1 [(.val (.int .u8 0))] [(0,(.tmp 16)),(1,(.tmp 19))])),eE 21 1 1 12 20,aa 3 21]]),ab [aG 22 .add 8 1,aa 8 22]]
def DX:SF:=⟨ae [.region false [⟨none,[((some 2),.op (.er (.val (.val (.string ⟨#[]⟩)))))]⟩],ab [cq 3 1],ae [ab [aa 6 0,aP 7 6,aQ 8 0],bU 0 AQ],ab [aa 23 3,((some 24),.op (.old (.convert 91 9 (.tmp 23)) 9)),aa 2 24],.ret],
 [.tmp 2],25⟩
theorem Ix:aN Tryz.prog 62 []=some DX:=by kernel_rfl
theorem KK (g:aj) (J:g.dP) (l:List aB) (hl:∀ x∈l,cB g x) (B:l.length<=10000) (u:V) (H:View) (K:aV H u 2 (aU l)):au Tryz.prog 62 [u] H λr H'=>r=.val (ja (gO l))/\∀ id,H id≠.dead->H' id=H id:=by
 refine au.of mixed Ix ?_
 have hlen:cT u=some l.length:=by rw[K.len,bJ]
 have L:=J.rules
 simp(disch:=omega)only[↓wr,seval,wq,DX,hlen]
 refine aR.up l.length (λi T H'=>∃ b:V,aV H' b 1 ((rE (l.take i)).map λn=>[gy n])/\dt H H' b/\T 3=b/\T 6=u/\T 7=gi l.length/\T 8=gi i) ⟨.emp 1,.nil,.emp,rfl,rfl,rfl,rfl⟩ ?_
 rintro i k T H' hk ⟨b,v,w,t3,t6,t7,t8⟩
 simp(disch:=omega)only[↓wr,seval,wq,AQ,t3,t6,t7,t8]
 apply ah.dec<;>intro M
 .have C:l[i]?=some (l[i]'(by omega)):=Zj (by omega)
  have f:=hl _ (Zs (show i < l.length by omega))
  have z:l.take (i+1)=l.take i ++ [l[i]'(by omega)]:=by rw[ZG,C];rfl
  generalize l[i]'(by omega)=x at C f z
  have N:=fp J f.1
  have O:=f.1
  have P:=f.2
  obtain⟨id,hu,a⟩:=K.sl (by rw[bJ];omega)
  have A:H' id=.arr 2 (aU l):=by rw[(w id (by rw[a];simp)).1,a]
  rw[bJ] at hu
  subst hu
  have D:=Tz (l.take i)
  rw[Z6] at D
  simp(disch:=omega)only[↓wr,seval,wq,t3,t6,t7,t8,A,r7 C,VE (x:=x.aw+1) (by omega) (by omega),VE (x:=x.dot) (by omega) (by omega)]
  refine⟨by omega,by rw[bJ];omega,?_⟩
  intro q hq o E
  obtain⟨F,p⟩:=cP E (by simp)
  rw[Zk F] at p
  have G:∀ j,H j≠.dead->j≠q/\j≠o:=λj c=>by
   have h1:=(w j c).1
   exact⟨λe=>c (by rw[e] at h1 ⊢;rw[<-h1,hq]),λe=>c (by rw[e] at h1 ⊢;rw[<-h1,p])⟩
  have I:∀ a0 h a2,aV (((H'.set q a0).set q h).set o a2) b 1 ((rE (l.take i)).map λn=>[gy n]):=λa0 h a2=>v.keep λid a=>by
   have h1:=(v.live a).1
   have s:id≠q:=by rintro rfl;rw[hq] at h1;simp at h1
   have t:id≠o:=by rintro rfl;rw[p] at h1;simp at h1
   simp[View.set,s,t]
  have m:∀ a0 h a2 j,H j≠.dead->(((H'.set q a0).set q h).set o a2) j=H j:=λa0 h a2 j c=>by
   obtain⟨s,t⟩:=G j c
   simp[View.set,s,t,(w j c).1]
  have d:∀ (a0 h:cU) (s t:List V),bR (((H'.set q a0).set q h).set o (.arr 1 [s,t])) (.sl o 0 2 1)=some ([s,t],[o]):=λa0 h s t=>by simp[bR,View.set]
  simp(disch:=omega)only[↓wr,seval,wq,d,t3]
  refine gh (I _ _ _) (by simp[aL]) (by unfold aA;simp;omega) (by unfold aA;simp;omega) ?_
  intro Q W R S
  simp(disch:=omega)only[↓wr,seval,wq,t6,t7,t8]
  refine aE hk (by omega) ⟨Q,?_,λj c=>?_,rfl,t6,t7,rfl⟩
  .have:(rE (l.take (i+1))).map (λn=>[gy n])=(rE (l.take i)).map (λn=>[gy n]) ++ [[gy (x.aw+1)],[gy x.dot]]:=by
    rw[z];simp[rE]
   rw[this];exact R
  .obtain⟨U,k2⟩:=S j (by rw[m _ _ _ j c];exact c) (w j c).2
   exact⟨by rw[U,m _ _ _ j c],k2⟩
 .rw[Zx (by omega)] at v
  simp(disch:=omega)only[↓wr,seval,wq,t3]
  have d:∃ rd,bR H' b=some ((rE l).map (λn=>[gy n]),rd):=by
   rcases v with ⟨e,k,rfl⟩ | ⟨n,rfl,B⟩
   .exact⟨[],by rw[e];rfl⟩
   .rcases hq:(rE l).map (λn=>[gy n]) with _ | ⟨y,ys⟩
    .exact⟨[],by simp[bR]⟩
    .rw[hq] at B
     exact⟨[n],by
      have:=tT (H:=H') n 0 ys.length 1 1 (y :: ys) B (by simp)
      rw[ZB,this];simp⟩
  obtain⟨rd,d⟩:=d
  refine WZ (u:=b) (xs:=(rE l).map λn=>[gy n]) (rd:=rd) (k:=((rE l).map λn=>[gy n]).length) (l:=gO l) Tryz.underlying91 Tryz.underlying5 Tryz.underlying9 (by simp(disch:=omega)only[↓wr,seval,wq];exact t3) d v.len (Es l) ?_
  simp(disch:=omega)only[↓wr,seval,wq]
  exact λid a=>(w id a).1
theorem Bn (g:aj) (p:List aB) (y:aB) (s:Int):bw g (p ++ [y]) s=if bA g y=(s,true) then bw g p s ++ [⟨y.aw,y.dot+1⟩] else bw g p s:=by
 unfold bw
 rw[aaS,ZD]
 split
 .rename_i h;simp[h]
 .rename_i h;simp[h]
def jU (g:aj) (p:List aB) (A:bW Int):List ct:=A.map λx=>(x.2.1,2,aU (bw g p (bj g x.1.toNat)))
structure wb (g:aj) (p:List aB) (H0 H:View) (q:Nat) (A:bW Int):Prop where
 mp:∃ c,H q=.map (cH (Value.int .i64) A) c
 nd:(A.map (·.1)).Nodup
 own:aX H (jU g p A)
 ne:∀ x∈A,0<=x.1/\bw g p (bj g x.1.toNat)≠[]
 all:∀ k:Nat,bw g p (bj g k)≠[]->((k:Nat):Int)∈A.map (·.1)
 old:∀ id,H0 id≠.dead->H id=H0 id
 q0:H0 q=.dead
 new:∀ x∈A,∀ id,owner x.2.1=some id->H0 id=.dead
theorem getM_none {A:bW Int} {k:Int} : getM A k=none↔k ∉ A.map (·.1):=by
 induction A with
 | nil=>simp[getM]
 | cons x A a =>
  unfold getM at a ⊢
  rw[aa5]
  by_cases h:k=x.1
  .simp[h]
  .simp only[beq_eq_false_iff_ne.2 h,ZJ,Zz,not_or]
   rw[a]
   simp[h]
theorem yE {A:bW Int} {k:Int} {v:V} (h:getM A k=some v):∃ a d b,A=a ++ (k,v,b) :: d/\k ∉ a.map (·.1)/\∀ v' c,bN k v' c A=a ++ (k,v',b) :: d:=by
 induction A with
 | nil=>simp[getM] at h
 | cons x A f =>
  unfold getM at h f
  rw[aa5] at h
  by_cases e:k=x.1
  .simp only[e,aaF,Zq,Zl] at h
   refine⟨[],A,x.2.2,by rw[e,<-h];rfl,by simp,λv' c=>?_⟩
   rw[bN,e,aaF,Zn rfl];rfl
  .rw[beq_eq_false_iff_ne.2 e] at h
   obtain⟨a,d,b,rfl,g,i⟩:=f h
   refine⟨x :: a,d,b,rfl,by simp only[ZJ,Zz,not_or];exact⟨e,g⟩,λv' c=>?_⟩
   rw[bN,beq_eq_false_iff_ne.2 e,i];rfl
theorem TC {A:bW Int} {k:Int} (h:k ∉ A.map (·.1)) (v:V) (c:Nat):bN k v c A=A ++ [(k,v,c)]:=by
 induction A with
 | nil=>rfl
 | cons x A a =>
  simp only[ZJ,Zz,not_or] at h
  rw[bN,beq_eq_false_iff_ne.2 h.1,a h.2];rfl
theorem wb.skip {g:aj} {p:List aB} {H0 H:View} {q:Nat} {A:bW Int} (h:wb g p H0 H q A) {y:aB} (a:(bA g y).2=false):wb g (p ++ [y]) H0 H q A:=by
 have e:∀ s,bw g (p ++ [y]) s=bw g p s:=λs=>by rw[Bn,Zk (λh=>by rw[h] at a;simp at a)]
 have b:jU g (p ++ [y]) A=jU g p A:=by simp only[jU,e]
 exact⟨h.mp,h.nd,by rw[b];exact h.own,λx c=>by rw[e];exact h.ne x c,λk hk=>by rw[e] at hk;exact h.all k hk,h.old,h.q0,h.new⟩
theorem wb.val {g:aj} {p:List aB} {H0 H:View} {q:Nat} {A:bW Int} (h:wb g p H0 H q A) (r:Nat):aV H ((getM A r).getD (.emp 1)) 2 (aU (bw g p (bj g r))):=by
 cases c:getM A r with
 | none =>
  have d:=getM_none.1 c
  have:bw g p (bj g r)=[]:=aay λa=>d (h.all r a)
  rw[this];exact .nil
 | some v =>
  obtain⟨e,f,b,rfl,_,_⟩:=yE c
  have:=h.own.1 (v,2,aU (bw g p (bj g r))) (by simp[jU])
  exact this
theorem wb.put {g:aj} {p:List aB} {H0 H:View} {q:Nat} {A:bW Int} (h:wb g p H0 H q A) {y:aB} {r:Nat} (T:bA g y=(bj g r,true)) {H1:View} {v':V} (U:aV H1 v' 2 (aU (bw g p (bj g r) ++ [⟨y.aw,y.dot+1⟩]))) (w:Left H H1 ((getM A r).getD (.emp 1)) v') (c B:Nat) :
  wb g (p ++ [y]) H0 (H1.set q (.map (cH (Value.int .i64) (bN (r:Int) v' c A)) B)) q (bN (r:Int) v' c A):=by
 obtain⟨c0,hq⟩:=h.mp
 have hr:bw g (p ++ [y]) (bj g r)=bw g p (bj g r) ++ [⟨y.aw,y.dot+1⟩]:=by rw[Bn,Zn T]
 have i:∀ x:Int × V × Nat,0<=x.1->x.1≠r->bw g (p ++ [y]) (bj g x.1.toNat)=bw g p (bj g x.1.toNat):=λx O d=>by
  rw[Bn,Zk]
  intro e
  rw[T] at e
  simp only[Zo,and_true] at e
  have h1:=ze g r
  rw[e,ze] at h1
  omega
 have C:owner ((getM A r).getD (.emp 1))≠some q:=λe=>by
  have:=((h.val r).live e).1
  rw[hq] at this;simp at this
 have D:H1 q≠.dead/\owner v'≠some q:=by
  obtain⟨Y,k2⟩:=w q (by rw[hq];simp) C
  exact⟨by rw[Y,hq];simp,k2⟩
 have hold:∀ id,H0 id≠.dead->id≠q/\owner ((getM A r).getD (.emp 1))≠some id:=λid f=>by
  refine⟨λe=>f (by rw[e];exact h.q0),λe=>?_⟩
  cases t:getM A r with
  | none=>rw[t] at e;simp[owner] at e
  | some v =>
   rw[t] at e
   obtain⟨s,l,b,rfl,_,_⟩:=yE t
   exact f (h.new (r,v,b) (by simp) id e)
 have m:∀ id,H0 id≠.dead->(H1.set q (.map (cH (Value.int .i64) (bN (r:Int) v' c A)) B)) id=H0 id:=λid f=>by
  simp only[View.set]
  rw[Zk (hold id f).1,(w id (by rw[h.old id f];exact f) (hold id f).2).1,h.old id f]
 have E:∀ id,owner v'=some id->H0 id=.dead:=λid e=>aaB λf=>(w id (by rw[h.old id f];exact f) (hold id f).2).2 e
 have u:∀ {L:List ct},aX H1 L->(∀ x∈L,owner x.1≠some q)->aX (H1.set q (.map (cH (Value.int .i64) (bN (r:Int) v' c A)) B)) L:=λW d=>⟨λx F=>(W.1 x F).other (d x F),W.2⟩
 have j:∀ x∈A,owner x.2.1≠some q:=λx d=>h.own.Cu hq _ (ZF.2 ⟨x,d,rfl⟩)
 cases t:getM A r with
 | none =>
  have N:=getM_none.1 t
  rw[t] at w
  rw[TC N] at *
  have P:jU g (p ++ [y]) (A ++ [((r:Int),v',c)])=jU g p A ++ [(v',2,aU (bw g p (bj g r) ++ [⟨y.aw,y.dot+1⟩]))]:=by
   simp only[jU,ZD,ZJ,aaK,ZK,hr]
   congr 1
   refine abm λx d=>?_
   rw[i x (h.ne x d).1 (λe=>N (ZF.2 ⟨x,d,e⟩))]
  refine⟨⟨B,by simp[View.set]⟩,?_,?_,λx d=>?_,λk hk=>?_,m,h.q0,λx d id e=>?_⟩
  .rw[ZD,aak]
   refine⟨h.nd,by simp,λa Z b X e=>?_⟩
   simp at X;subst X;subst e;exact N Z
  .rw[P]
   have Q:aX H1 ((v',2,aU (bw g p (bj g r) ++ [⟨y.aw,y.dot+1⟩])) :: jU g p A):=(h.own.emp (k:=1) (sz:=2)).left (by simpa using U) w
   refine u (Q.perm (List.perm_append_comm (l₁:=[_]))) λx d=>?_
   rcases ZN.1 d with d | d
   .obtain⟨z,G,rfl⟩:=ZF.1 d
    exact j z G
   .simp at d;subst d;exact D.2
  .rcases ZN.1 d with d | d
   .rw[i x (h.ne x d).1 (λe=>N (ZF.2 ⟨x,d,e⟩))];exact h.ne x d
   .simp at d;subst d;simp[hr]
  .rw[ZD,ZN]
   by_cases e:k=r
   .right;simp[e]
   .left
    refine h.all k ?_
    have:=i ((k:Int),.any,0) (by simp) (by simp only;omega)
    simp only[ZK] at this
    rw[<-this];exact hk
  .rcases ZN.1 d with d | d
   .exact h.new x d id e
   .simp at d;subst d;exact E id e
 | some v =>
  obtain⟨s,l,b,rfl,R,I⟩:=yE t
  rw[t] at w
  rw[I] at *
  have J:=h.nd
  rw[ZD,ZJ,aak] at J
  have S:(r:Int) ∉ l.map (·.1):=(aah.1 J.2.1).1
  have K:∀ x∈s,x.1≠r:=λx d e=>R (ZF.2 ⟨x,d,e⟩)
  have M:∀ x∈l,x.1≠r:=λx d e=>S (ZF.2 ⟨x,d,e⟩)
  have n:∀ x∈s,x∈s ++ ((r:Int),v,b) :: l:=λx d=>aaT _ d
  have o:∀ x∈l,x∈s ++ ((r:Int),v,b) :: l:=λx d=>aaX _ (ZE _ d)
  have P:jU g (p ++ [y]) (s ++ ((r:Int),v',b) :: l)=jU g p s ++ (v',2,aU (bw g p (bj g r) ++ [⟨y.aw,y.dot+1⟩])) :: jU g p l:=by
   simp only[jU,ZD,ZJ,ZK,hr]
   congr 1
   .refine abm λx d=>?_
    rw[i x (h.ne x (n x d)).1 (K x d)]
   .congr 1
    refine abm λx d=>?_
    rw[i x (h.ne x (o x d)).1 (M x d)]
  have e0:jU g p (s ++ ((r:Int),v,b) :: l)=jU g p s ++ (v,2,aU (bw g p (bj g r))) :: jU g p l:=by
   simp only[jU,ZD,ZJ,ZK]
  refine⟨⟨B,by simp[View.set]⟩,by simpa using h.nd,?_,λx d=>?_,λk hk=>?_,m,h.q0,λx d id e=>?_⟩
  .rw[P]
   have O:=h.own
   rw[e0] at O
   have Q:aX H1 ((v',2,aU (bw g p (bj g r) ++ [⟨y.aw,y.dot+1⟩])) :: (jU g p s ++ jU g p l)):=(O.perm ZY).left U w
   refine u (Q.perm ZY.symm) λx d=>?_
   rcases ZN.1 d with d | d
   .obtain⟨z,G,rfl⟩:=ZF.1 d
    exact j z (n z G)
   .rcases Zz.1 d with rfl | d
    .exact D.2
    .obtain⟨z,G,rfl⟩:=ZF.1 d
     exact j z (o z G)
  .rcases ZN.1 d with d | d
   .rw[i x (h.ne x (n x d)).1 (K x d)];exact h.ne x (n x d)
   .rcases Zz.1 d with rfl | d
    .simp[hr]
    .rw[i x (h.ne x (o x d)).1 (M x d)];exact h.ne x (o x d)
  .by_cases e:k=r
   .subst e;simp
   .have:=i ((k:Int),.any,0) (by simp) (by simp only;omega)
    simp only[ZK] at this
    rw[this] at hk
    have:=h.all k hk
    simpa using this
  .rcases ZN.1 d with d | d
   .exact h.new x (n x d) id e
   .rcases Zz.1 d with rfl | d
    .exact E id e
    .exact h.new x (o x d) id e
theorem wb.fresh {g:aj} {p:List aB} {H0 H:View} {q:Nat} {A:bW Int} (h:wb g p H0 H q A) {n:Nat} (b:H n=.dead) (o:cU):wb g p H0 (H.set n o) q A:=by
 obtain⟨c,hq⟩:=h.mp
 have d:q≠n:=by rintro rfl;rw[b] at hq;simp at hq
 refine⟨⟨c,by simp[View.set,d,hq]⟩,h.nd,h.own.fresh b,h.ne,h.all,λid a=>?_,h.q0,h.new⟩
 have e:id≠n:=by rintro rfl;rw[h.old id a] at b;exact a b
 simp[View.set,e,h.old id a]
theorem US (g:aj) (w:g.dP) (l:List aB) (hl:∀ x∈l,cB g x) (L:l.length<=10000) (u:V) (H:View) (Z:aV H u 2 (aU l)):au Tryz.prog 63 [.agg (ag g),u] H λr H'=>∃ q A,r=.mp q/\wb g l H H' q A:=by
 refine au.of mixed E8 ?_
 have hlen:cT u=some l.length:=by rw[Z.len,bJ]
 have hT:=w.af
 have hN:=w.ak
 simp(disch:=omega)only[↓wr,seval,wq,BX,ag,encS,hlen]
 intro q hq
 have M:wb g [] H (H.set q (.map [] 0)) q []:=⟨⟨0,by simp[View.set,cH]⟩,by simp,⟨by simp[jU],by simp[jU]⟩,by simp,λk hk=>absurd rfl hk,λid j=>by
  have:id≠q:=by rintro rfl;exact j hq
  simp[View.set,this],hq,by simp⟩
 generalize H.set q (.map [] 0)=H1 at M
 try simp(disch:=omega)only[↓wr,seval,wq]
 refine aR.up l.length (λi T H'=>∃ A,wb g (l.take i) H H' q A/\T 2=.aI (ag g) 0/\T 5=.mp q/\T 12=u/\T 13=gi l.length/\T 14=gi i) ⟨[],M,rfl,rfl,rfl,rfl,rfl⟩ ?_
 clear M hq
 rintro i k T H' hk ⟨A,D,t2,t5,t12,t13,t14⟩
 simp(disch:=omega)only[↓wr,seval,wq,x6,t2,t5,t12,t13,t14]
 apply ah.dec<;>intro hc
 .have N:l[i]?=some (l[i]'(by omega)):=Zj (by omega)
  have a:=hl _ (Zs (show i < l.length by omega))
  have B:l.take (i+1)=l.take i ++ [l[i]'(by omega)]:=by rw[ZG,N];rfl
  generalize l[i]'(by omega)=x at N a B
  have h1:=Lj g w x a
  cases b:bA g x with
  | mk s O =>
  have P:=tE w a b
  rw[b] at h1
  have aq:=fp w a.1
  have ar:=a.2
  obtain⟨id,hu,j⟩:=Z.sl (by rw[bJ];omega)
  have p:H' id=.arr 2 (aU l):=by rw[D.old id (by rw[j];simp),j]
  rw[bJ] at hu
  subst hu
  simp only[ag,encS,bE] at h1
  simp(disch:=omega)only[↓wr,seval,wq,t2,t5,t12,t13,t14,p,r7 N]
  refine⟨by omega,by rw[bJ];omega,?_⟩
  intro E F
  rw[set_set]
  have d:(H'.set E (.arr 2 [[gi x.aw,gi x.dot]])) E=.arr 2 [[gi x.aw,gi x.dot]]:=by simp[View.set]
  have f:=D.fresh F (.arr 2 [[gi x.aw,gi x.dot]])
  generalize H'.set E (.arr 2 [[gi x.aw,gi x.dot]])=Q at d f
  clear D F p
  try simp(disch:=omega)only[↓wr,seval,wq,t2,t5,d,ag,encS]
  refine ax.pure h1 ?_
  cases O with
  | false =>
   simp(disch:=omega)only[↓wr,seval,wq,t2,t5,t12,t13,t14]
   exact aE hk (by omega) ⟨A,by rw[B];exact f.skip (by rw[b]),t2,t5,t12,t13,rfl⟩
  | true =>
  have hh:=om w a b
  obtain⟨r1,r2⟩:=rl hh
  obtain⟨r3,r4⟩:=Kq r1
  obtain⟨r,hr⟩:∃ r:Nat,kF g s=r:=⟨(kF g s).toNat,by omega⟩
  rw[hr,ZK] at r4
  have R:=Ut g w s P
  rw[hr] at R
  simp only[ag,encS] at R
  simp(disch:=omega)only[↓wr,seval,wq,t2,t5,ag,encS]
  refine ax.pure R ?_
  obtain⟨c,S⟩:=f.mp
  simp(disch:=omega)only[↓wr,seval,wq,t5]
  refine Cg (kt:=3) (et:=27) (z:=.emp 1) (by kernel_rfl) (by kernel_rfl) (mj .i64 Tryz.underlying3) (id:=q) (c:=c) (m:=A) (k:=(r:Int)) (by simp(disch:=omega)only[↓wr,seval,wq]) (by simp(disch:=omega)only[↓wr,seval,wq]) S ?_
  have a1:=f.val r
  have an:∀ n o,Q n=.dead->(Q.set n o) E=.arr 2 [[gi x.aw,gi x.dot]]:=λn o L=>by
   have:E≠n:=by rintro rfl;rw[d] at L;simp at L
   simp[View.set,this,d]
  try simp(disch:=omega)only[↓wr,seval,wq,d]
  intro U W
  have C:=f.fresh W (.arr 2 [[gi x.aw,gi (x.dot+1)]])
  have t:=C.val r
  have X:bR (Q.set U (.arr 2 [[gi x.aw,gi (x.dot+1)]])) (.sl U 0 1 2)=some ([[gi x.aw,gi (x.dot+1)]],[U]):=by simp[bR,View.set]
  simp(disch:=omega)only[↓wr,seval,wq,X]
  have Y:=vh (g:=g) (l:=l.take i) (s:=bj g r)
  rw[Z6] at Y
  refine gh t (by simp[aL]) (by unfold aA;rw[bJ];simp;omega) (by unfold aA;rw[bJ];simp;omega) ?_
  intro v' H6 o6 l6
  obtain⟨K,h⟩:=C.mp
  have G:owner ((getM A (r:Int)).getD (.emp 1))≠some q:=λe=>by
   have:=(t.live e).1
   rw[h] at this;simp at this
  have I:H6 q=.map (cH (Value.int .i64) A) K:=by
   rw[(l6 q (by rw[h];simp) G).1,h]
  simp(disch:=omega)only[↓wr,seval,wq,t5]
  refine yq (kt:=3) (et:=27) (by kernel_rfl) (mj .i64 Tryz.underlying3) (id:=q) (c:=K) (m:=A) (k:=(r:Int)) (v:=v') (by simp(disch:=omega)only[↓wr,seval,wq]) (by simp(disch:=omega)only[↓wr,seval,wq]) (by simp(disch:=omega)only[↓wr,seval,wq]) I ?_
  intro c'
  simp(disch:=omega)only[↓wr,seval,wq,t2,t5,t12,t13,t14]
  have J:=C.put (y:=x) (r:=r) (by rw[b,r4]) (H1:=H6) (v':=v') (by
   have e:aU (bw g (l.take i) (bj g r) ++ [⟨x.aw,x.dot+1⟩])=aU (bw g (l.take i) (bj g r)) ++ [[gi x.aw,gi (x.dot+1)]]:=by simp[aU,bE]
   rw[e];exact o6) l6 K c'
  exact aE hk (by omega) ⟨bN (r:Int) v' K A,by rw[B];exact J,t2,t5,t12,t13,rfl⟩
 .rw[Zx (by omega)] at D
  simp(disch:=omega)only[↓wr,seval,wq,t5]
  exact⟨q,A,rfl,D⟩
theorem ax.still {P:Program} {f:FuncId} {vs:List V} {H:View} {K:V->View->Prop} {w:cO (H,K)} {a:V->View->Prop} (b:au P f vs H a) (hs:∀ r H',a r H'->∀ id,H id≠.dead->H' id=H id) (hk:∀ r H',a r H'->K r H'):ax P true f vs H K w:=by
 unfold ax
 simp only[if_true]
 exact(b.mono λr H' h=>⟨hs r H' h,hk r H' h⟩).Pn
theorem aX.join {H:View} {L M:List ct} (h:aX H L) (k:aX H M) (hd:∀ x∈L,∀ y∈M,∀ id,owner x.1=some id->owner y.1≠some id):aX H (L ++ M):=by
 refine⟨λx c=>?_,?_⟩
 .rcases ZN.1 c with c | c
  .exact h.1 x c
  .exact k.1 x c
 .rw[List.filterMap_append,aak]
  refine⟨h.2,k.2,λa g b i e=>?_⟩
  obtain⟨x,c,d⟩:=aaD.1 g
  obtain⟨y,j,f⟩:=aaD.1 i
  subst e
  exact hd x c y j a d f
theorem aX.sub {H:View} {L M:List ct} (h:aX H L) (hs:M.Sublist L):aX H M :=
 ⟨λx a=>h.1 x (hs.subset a),h.2.sublist (hs.filterMap _)⟩
theorem QG {l:List aB} (hs:cJ l) (g:l.length<=100000) (u:V) (H:View) (b:aV H u 2 (aU l)):au Tryz.prog 64 [u] H λr H'=>H=H'/\aV H r 2 (aU l)/\(l≠[]->r=u):=by
 refine(L7 l g u H b).mono ?_
 rintro r H' ⟨i,k2,a⟩
 rw[Pj hs] at k2
 have e:H'=H:=by
  funext id
  by_cases h:owner u=some id
  .rw[(b.live h).1,(k2.live (by rw[a];exact h)).1]
  .exact i id h
 subst e
 refine⟨rfl,k2,λc=>?_⟩
 have hp:0 < (aU l).length:=by rw[bJ];exact abk.2 c
 obtain⟨n,d,_⟩:=b.sl hp
 obtain⟨m,f,_⟩:=k2.sl hp
 rw[d,f] at a
 simp only[owner,Zl] at a
 rw[d,f,a]
def te (g:aj) (out:List aM) (M:bW (List UInt8)):Prop:=∀ l:List aB,(∀ x∈l,cB g x)->getM M (gO l)=if findD out l < 0 then none else some (gi (findD out l))
theorem G0:∀ {a b:List aM},a.map aM.bf=b.map aM.bf->∀ k,findD a k=findD b k
 | [],[],_,_=>rfl
 | [],_ :: _,h,_=>by simp at h
 | _ :: _,[],h,_=>by simp at h
 | s :: a,t :: b,h,k=>by
  simp only[ZJ,abr] at h
  rw[findD,findD,h.1,G0 h.2 k]
theorem EJ:∀ (a:List aM) (s:aM) (k:List aB),findD (a ++ [s]) k=if 0<=findD a k then findD a k else if s.bf=k then (a.length:Int) else -1
 | [],s,k=>by by_cases e:s.bf=k <;> simp[findD,e]
 | t :: a,s,k=>by
  have b:=EJ a s k
  have h1:=vp a k
  rw[Z4,findD,findD,b]
  simp only[ZB]
  push_cast
  by_cases e:t.bf=k <;> by_cases c:s.bf=k <;> by_cases d:0<=findD a k <;> simp only[e,c,d,if_true,if_false] <;> (repeat' split) <;> omega
theorem te.same {g:aj} {a b:List aM} {M:bW (List UInt8)} (h:te g a M) (e:a.map aM.bf=b.map aM.bf):te g b M:=λl hl=>by
 rw[h l hl,G0 e]
theorem te.put {g:aj} (b:g.dP) {out:List aM} {M:bW (List UInt8)} (h:te g out M) {k:List aB} (hk:∀ x∈k,cB g x) (f:findD out k < 0) (c:Nat):te g (out ++ [⟨k,[]⟩]) (bN (gO k) (gi out.length) c M):=λl hl=>by
 have h1:=EJ out ⟨k,[]⟩ l
 have i:=vp out l
 rw[rz]
 by_cases e:l=k
 .subst e
  rw[Zk (by omega),Zn rfl] at h1
  rw[h1,aaF,Zn rfl,Zk (by omega)]
 .have d:(gO l == gO k)=false:=beq_eq_false_iff_ne.2 λh=>e (Jb b hl hk h)
  rw[d,h l hl]
  simp only[ZM,if_false]
  by_cases a:0<=findD out l
  .rw[Zn a] at h1
   rw[h1]
  .rw[Zk a,Zk (λh=>e h.symm)] at h1
   rw[h1,Zn (by omega),Zn (by omega)]
theorem Jq {A:bW Int} {k:Nat} {v:V} (d:(A.map (·.1)).Nodup) (h:getM A (k:Int)=some v):∃ b,(A.filter (λx=>decide (((k:Nat):Int)<=x.1))).Perm (((k:Int),v,b) :: A.filter (λx=>decide (((k+1:Nat):Int)<=x.1))):=by
 obtain⟨g,f,b,rfl,a,_⟩:=yE h
 rw[ZD,ZJ,aak] at d
 have c:(k:Int) ∉ f.map (·.1):=(aah.1 d.2.1).1
 have e:∀ B:bW Int,(k:Int) ∉ B.map (·.1)->B.filter (λx=>decide (((k:Nat):Int)<=x.1))=B.filter (λx=>decide (((k+1:Nat):Int)<=x.1)):=λB i=>List.filter_congr λx j=>by
  have:x.1≠(k:Int):=λe=>i (ZF.2 ⟨x,j,e⟩)
  rw[decide_eq_decide];omega
 refine⟨b,?_⟩
 rw[aaS,aaS,abg,abg,Zn (by simp),Zk (by simp only[ZA];push_cast;omega),e g a,e f c]
 exact ZY
theorem X5 {α:Type} {e u r:α} {S X Y:List α} (h:X.Perm (r :: Y)):(e :: u :: (S ++ X)).Perm (u :: ((S ++ [r,e]) ++ Y)):=by
 refine(List.Perm.swap _ _ _).trans (.cons _ ?_)
 rw[Z2]
 refine((h.append_left S).cons e).trans ?_
 exact ZY.symm.trans ((List.Perm.swap _ _ _).append_left S)
theorem IM {α:Type} {u k e:α} {S R:List α} : (u :: (S ++ k :: e :: R)).Perm (e :: u :: (S ++ k :: R)):=by
 have h:(S ++ k :: e :: R).Perm (e :: (S ++ k :: R)):=by
  have:=ZY (a:=e) (l₁:=S ++ [k]) (l₂:=R)
  simpa using this
 exact(h.cons u).trans (List.Perm.swap _ _ _)
def xK:SC :=
 ae [ab [aS 49 .lss 48 47],bT 49 (.exit 2),.block 3 (ae [ab [aa 50 48,aa 9 50],ab [aa 51 8,aa 52 9,((some 53),.op (.old (.lookup 98 (.tmp 51) (.tmp 52) false) 27)),bh 54 64 [53],aa 10 54],ae [ab [aa 55 10,aP 56 55,aG 57 .eql 56 0],bc 57 (.exit 3)],ab [aa 58 9,aa 11 58],ae [ab [aa 59 9,ao 60 0 1,ai 61 60,aP 62 61,aS 63 .geq 59 62],bc 63 (ab [ao 64 0 1,ai 65 64,aP 66 65,aG 67 .sub 66 1,aa 68 9,aS 69 .sub 67 68,aa 11 69])],ab [aa 71 6,aa 72 10,bh 73 62 [72],((some 74),.op (.old (.lookup 97 (.tmp 71) (.tmp 73) true) 30)),aa 70 74,dW 75 0 70,dW 76 1 70,aa 12 75,aa 13 76],ae [ab [aa 77 13,c6 78 77],bc 78 (ae [ab [aa 79 5,aP 80 79,aa 12 80],ab [aa 81 6,aa 82 10,bh 83 62 [82],aa 84 12,(none,.op (.old (.mapUpdate 97 (.tmp 81) (.tmp 83) (.tmp 84)) 0))],ab [aa 85 5,aa 86 10,((some 87),.op (.build [(.emp 1),(.emp 1)] [(0,1,(.tmp 86))])),((some 88),.op (.bO 1 2 [(.emp 1),(.emp 1)] [(0,(.tmp 87))])),eE 89 2 48 85 88,aa 5 89]])],ab [aa 90 5,aa 91 7,aa 92 5,aa 93 7,aH 94 2 92 93,ao 95 1 94,ai 96 95,aa 97 11,aa 98 12,((some 99),.op (.build [(.val (.int .i64 0)),(.val (.int .i64 0))] [(0,1,(.tmp 97)),(1,1,(.tmp 98))])),((some 100),.op (.bO 1 2 [(.val (.int .i64 0)),(.val (.int .i64 0))] [(0,(.tmp 99))])),eE 101 2 16 96 100,aH 102 2 90 91,ao 103 1 102,bK 1 103 101]]),ab [aG 104 .add 48 1,aa 48 104]]
def yh:SC :=
 ae [ae [ab [aa 26 7,aa 27 5,aP 28 27,aS 29 .lss 26 28],bT 29 (.exit 0)],.block 1 (ae [.region true [⟨none,[aT 32 4 1,aT 33 4 1,aa 34 5,aa 35 7,aH 36 2 34 35,ao 37 0 36,ai 38 37,bh 39 56 [33,38],bh 40 63 [32,39],aa 8 40]⟩],ae [ab [ao 41 0 1,ai 42 41,aP 43 42,ao 44 1 1,ai 45 44,aP 46 45,aS 47 .add 43 46,aQ 48 0],bU 2 xK],ab [aa 105 5,aP 106 105,aG 107 .gtr 106 300],bc 107 (ae [ab [cq 2 1,aQ 3 5],.ret])]),ab [aa 30 7,aG 31 .add 30 1,aa 7 31]]
def Ba:SF:=⟨ae [ab [cw 1 0,cq 2 1,aQ 3 0],ae [ab [aT 14 4 1,bh 15 61 [14],c6 16 15],bc 16 (ae [ab [cq 2 1,aQ 3 1],.ret])],ab [((some 17),.op (.build [(.val (.int .i64 0)),(.val (.int .i64 0))] [(0,1,(.val (.val (.int .i64 (-1)))))])),((some 18),.op (.bO 1 2 [(.val (.int .i64 0)),(.val (.int .i64 0))] [(0,(.tmp 17))])),aa 4 18],ab [aa 19 4,((some 20),.op (.build [(.emp 1),(.emp 1)] [(0,1,(.tmp 19))])),((some 21),.op (.bO 1 2 [(.emp 1),(.emp 1)] [(0,(.tmp 20))])),aa 5 21],ab [((some 22),.op (.pA)),aa 23 4,bh 24 62 [23],(none,.op (.old (.insert 97 (.tmp 22) (.tmp 24) (.const (.int .i64 0))) 0)),aa 25 22,aa 6 25],ae [ab [aQ 7 0],bU 0 yh],ab [aa 108 5,aa 2 108,aQ 3 0],.ret],
 [.tmp 2,.tmp 3],109⟩
theorem EF:aN Tryz.prog 24 [1]=some Ba:=by kernel_rfl
def YZ (g:aj) (m:Nat) (T:Env) (H:View):Prop:=∃ (at_:Nat) (u:V) (S:List qU) (out:List aM) (q c:Nat) (M:bW (List UInt8)),m+at_=302/\out=S.map (λx=>x.2.2)/\aX H ((u,2,fv S) :: mZ S)/\eo g at_ 0 out/\1<=out.length/\out.length<=300/\gn g m at_ out=bY g/\at_<=out.length /\
 H q=.map (cH ja M) c/\te g out M/\T 1=.aI (ag g) 0/\T 5=u/\T 6=.mp q/\T 7=gi at_
theorem HY (g:aj) (hg:g.Ok) (e8:g.Small):cE Tryz.prog 24 [.agg (ag g)] (.bt [ba (bY g).1,gi (bY g).2]):=by
 refine cE.of (dT g) ?_
 have c5:=Sv g hg e8
 refine au.of mixed EF ?_
 simp only[ag,encS] at c5
 simp(disch:=omega)only[↓wr,seval,wq,Ba,ag,encS]
 refine ax.pure c5 ?_
 simp(disch:=omega)only[↓wr,seval,wq]
 apply ah.split<;>intro hr
 rotate_left
 .simp(disch:=omega)only[↓wr,seval,wq]
  intro h' _
  have e:bY g=([],1):=by unfold bY;rw[Zk (by rw[hr];simp)]
  rw[e]
  exact kX (.emp _)
 have L:g.dP:=mL hr
 have e0:gn g 302 0 ez=bY g:=by unfold bY;rw[Zn hr]
 have hT:=L.af;have hN:=L.ak
 simp(disch:=omega)only[↓wr,seval,wq]
 intro X q2 N q3 c9
 have b7:cB g ⟨-1,0⟩:=(po (g:=g)).bf ⟨[⟨-1,0⟩],[]⟩ (by simp[ez]) |>.2.2 _ (by simp)
 have o0:aX (((View.set (λ_=>cU.dead) X (.arr 2 [[gi (-1),gi 0]])).set q2 (.arr 2 [[.sl X 0 1 2,.emp 1]]))) ((.sl q2 0 1 2,2,fv [(.sl X 0 1 2,.emp 1,⟨[⟨-1,0⟩],[]⟩)]) :: mZ [(.sl X 0 1 2,.emp 1,⟨[⟨-1,0⟩],[]⟩)]) :=
  (((aX.nil.emp (k:=1) (sz:=2)).new (n:=X) rfl 2 [[gi (-1),gi 0]]).new (by simpa [View.set] using N) 2 [[.sl X 0 1 2,.emp 1]])
 have o1:=o0.fresh (n:=q3) (by simpa [View.set] using c9) (o:=.map [] 0)
 have b0:((((View.set (λ_=>cU.dead) X (.arr 2 [[gi (-1),gi 0]])).set q2 (.arr 2 [[.sl X 0 1 2,.emp 1]])).set q3 (.map [] 0))) q3=.map (cH ja []) 0:=by simp[View.set,cH]
 generalize (((View.set (λ_=>cU.dead) X (.arr 2 [[gi (-1),gi 0]])).set q2 (.arr 2 [[.sl X 0 1 2,.emp 1]])).set q3 (.map [] 0))=H3 at o1 b0 ⊢
 clear o0 N c9
 have da:aV H3 (.sl X 0 1 2) 2 (aU [⟨-1,0⟩]):=o1.1 _ (ZE _ (abq ..))
 refine ax.dJ ((KK g L [⟨-1,0⟩] (λx Y=>by simp at Y;subst Y;exact b7) (by simp) (.sl X 0 1 2) H3 da).mono ?_)
 rintro r H4 ⟨rfl,k4⟩
 have cj:H4 q3=.map (cH ja []) 0:=by rw[k4 q3 (by rw[b0];simp),b0]
 simp(disch:=omega)only[↓wr,seval,wq,Xl]
 refine yq (kt:=9) (et:=3) (by kernel_rfl) (Lk Tryz.underlying9) (id:=q3) (c:=0) (m:=[]) (k:=gO [⟨-1,0⟩]) (v:=gi 0) (by simp(disch:=omega)only[↓wr,seval,wq]) (by simp(disch:=omega)only[↓wr,seval,wq]) rfl cj ?_
 intro K
 have db:te g ez (bN (gO [⟨-1,0⟩]) (gi 0) 0 []):=te.put (out:=[]) L (λl _=>by simp[getM,findD]) (λx Y=>by simp at Y;subst Y;exact b7) (by simp[findD]) 0
 have o2:=(o1.stay k4).xw cj (o:=.map (cH ja (bN (gO [⟨-1,0⟩]) (gi 0) 0 [])) K)
 have ck:(H4.set q3 (.map (cH ja (bN (gO [⟨-1,0⟩]) (gi 0) 0 [])) K)) q3=.map (cH ja (bN (gO [⟨-1,0⟩]) (gi 0) 0 [])) K:=by simp[View.set]
 generalize H4.set q3 (.map (cH ja (bN (gO [⟨-1,0⟩]) (gi 0) 0 [])) K)=H5 at o2 ck ⊢
 clear cj b0 k4 da o1
 clear H4 H3
 simp(disch:=omega)only[↓wr,seval,wq]
 refine aR.intro (YZ g) 302 ⟨0,_,_,ez,q3,K,_,rfl,rfl,o2,po,Zt _,by simp[ez],e0,by omega,ck,db,rfl,rfl,rfl,rfl⟩ ?_
 clear o2 ck db
 clear H5 X q2 q3 K
 rintro m T H ⟨at_,u,S,out,q,c,M,hm,rfl,O,hI,h1,b8,hl,hle,t,F,t1,t5,t6,t7⟩
 have a1:cT u=some S.length:=by rw[O.head.len,dh]
 simp only[Zr] at h1 b8 hle
 simp(disch:=omega)only[↓wr,seval,wq,yh,t1,t5,t6,t7,a1]
 apply ah.dec<;>intro hc
 rotate_left
 .simp(disch:=omega)only[↓wr,seval,wq,t5]
  have e1:bY g=(S.map (λx=>x.2.2),0):=by
   rw[<-hl]
   cases m with
   | zero=>rfl
   | succ m=>rw[gn,Zk (by simp;omega)]
  rw[e1]
  rintro h' rfl
  exact kX (Gn O.head λx Y=>⟨O.1 _ (ZE _ (oR Y).1),O.1 _ (ZE _ (oR Y).2)⟩)
 obtain⟨m,rfl⟩:∃ q,m=q+1:=⟨m - 1,by omega⟩
 have a6:at_ < S.length:=by omega
 obtain⟨S1,x,p,rfl,Z,Y⟩:=oA a6
 have cr:x∈S1 ++ x :: p:=by simp
 obtain⟨dj,fb,a7⟩:=hI.bf x.2.2 (List.mem_map_of_mem cr)
 have ff:=gC L dj a7
 have hh:aV H u 2 (fv (S1 ++ x :: p)):=O.head
 obtain⟨id,hu,w⟩:=hh.sl (by rw[dh];omega)
 have a8:(fv (S1 ++ x :: p)).getD at_ []=[x.1,x.2.1]:=by simp[fv,Zi,<-Z]
 have dm:cK g ((List.map (λx=>x.2.2) (S1 ++ x :: p)).getD at_ bg).bf=cK g x.2.2.bf:=by
  rw[Zi,Zm,Y];rfl
 have b9:=λn hn=>eo.row (hI.qj L (show at_ < ((S1 ++ x :: p).map λx=>x.2.2).length by simpa using a6)).1 (hI.qj L (show at_ < ((S1 ++ x :: p).map λx=>x.2.2).length by simpa using a6)).2 hI n hn
 rw[gn,Zn (by simpa using a6),C5] at hl
 rw[dm] at hl b9
 have ds:=kz g x.2.2.bf
 have cu:∀ y∈cK g x.2.2.bf,cB g y:=λy hy=>((df L a7).1 hy).has a7
 rw[dh] at hu
 simp(disch:=omega)only[↓wr,seval,wq,t1,t5,t7,hu,w,a8,ag,encS]
 refine⟨by omega,by rw[dh];omega,?_⟩
 refine ax.Nf (Lq g L x.2.2.bf a7 (by omega) x.1 H (O.1 _ (ZE _ (oR cr).1))) ?_
 intro r H2 or fr
 simp(disch:=omega)only[↓wr,seval,wq,ag,encS]
 have gd:=gC L ds cu
 refine ax.still (US g L (cK g x.2.2.bf) cu (by omega) r H2 or) (λr H' h=>by obtain⟨q,A,_,h⟩:=h;exact h.old) ?_
 rintro r2 H6 ⟨R,A,rfl,C⟩
 have cv:∀ id,H id≠.dead->H6 id=H id:=λid w=>by rw[C.old id (by rw[(fr id w).1];exact w),(fr id w).1]
 have ca:H6 q=.map (cH ja M) c:=by rw[cv q (by rw[t];simp),t]
 have o6:aX H6 ((u,2,fv (S1 ++ x :: p)) :: (mZ (S1 ++ x :: p) ++ jU g (cK g x.2.2.bf) (A.filter λy=>decide (((0:Nat):Int)<=y.1)))):=by
  have hA:A.filter (λy=>decide (((0:Nat):Int)<=y.1))=A:=List.filter_eq_self.2 λy hy=>by simpa using (C.ne y hy).1
  rw[hA]
  refine(O.stay cv).join (M:=jU g (cK g x.2.2.bf) A) C.own λa ha b hb id h1 h2=>?_
  obtain⟨y,hy,rfl⟩:=ZF.1 hb
  have h3:=C.new y hy id h2
  have h4:=O.live ha h1
  rw[(fr id h4).1] at h3
  exact h4 h3
 obtain⟨cA,P⟩:=C.mp
 have hAnd:=C.nd
 have fl:R≠q:=by
  rintro rfl
  have:=C.q0
  rw[(fr _ (by rw[t];simp)).1,t] at this;simp at this
 have bb:∀ k:Nat,(getM A (k:Int)=none->bw g (cK g x.2.2.bf) (bj g k)=[]):=λk h=>aay λan=>getM_none.1 h (C.all k an)
 clear or fr w a8 dm Y cv C t
 generalize cK g x.2.2.bf=cl at *
 generalize D:(S1 ++ x :: p).map (λx=>x.2.2)=bd at *
 have dv:bd.length=(S1 ++ x :: p).length:=by rw[<-D];simp
 simp(disch:=omega)only[↓wr,seval,wq,t1,t5,t6,t7,ag,encS]
 refine aR.up (g.af.length+g.ak.length) (λi T H'=>∃ (u:V) (S:List qU) (M:bW (List UInt8)) (c:Nat),S.map (λx=>x.2.2)=(List.range i).foldl (dr g cl at_) bd/\aX H' ((u,2,fv S) :: (mZ S ++ jU g cl (A.filter λy=>decide (((i:Nat):Int)<=y.1)))) /\
  H' R=.map (cH (Value.int .i64) A) cA/\H' q=.map (cH ja M) c/\te g (S.map λx=>x.2.2) M/\T 1=.aI (ag g) 0/\T 5=u/\T 6=.mp q/\T 7=gi at_/\T 8=.mp R/\T 47=gi ((g.af.length+g.ak.length:Nat):Int)/\T 48=gi i)
  ⟨u,_,M,c,D,o6,P,ca,by rw[D];exact F,t1,by rw[<-hu];exact t5,t6,t7,rfl,?_,rfl⟩ ?_
 .push_cast;rfl
 rw[<-dv] at h1 b8 hle a6
 clear o6 O hh hu t1 t5 t6 t7 a1 D cr dv hc dj fb a7 ff Z P ca F
 clear u H H2 H6 T id S1 x p M c r
 rintro i k T H' hk ⟨u,S,M,c,hA,O,P,t,F,t1,t5,t6,t7,t8,t47,t48⟩
 obtain⟨iI,ea,eb⟩:=b9 i (by omega)
 rw[<-hA] at iI ea eb
 rw[Zr] at ea eb
 have a1:cT u=some S.length:=by rw[O.head.len,dh]
 simp(disch:=omega)only[↓wr,seval,wq,xK,t1,t5,t6,t7,t8,t47,t48]
 apply ah.dec<;>intro hc
 rotate_left
 .have hi:i=g.af.length+g.ak.length:=by omega
  subst hi
  rw[<-hA] at hl
  simp(disch:=omega)only[↓wr,seval,wq,t1,t5,t6,t7,a1]
  apply ah.dec<;>intro h3
  .simp(disch:=omega)only[↓wr,seval,wq]
   intro h' _
   rw[Zn (by rw[Zr];omega)] at hl
   rw[<-hl]
   exact kX (.emp _)
  .simp(disch:=omega)only[↓wr,seval,wq,t1,t5,t6,t7]
   rw[Zk (by rw[Zr];omega)] at hl
   exact⟨m,by omega,at_+1,u,S,_,q,c,M,by omega,rfl,O.sub (List.Sublist.cons_cons _ (List.sublist_append_left _ _)),iI.next,by rw[Zr];omega,by rw[Zr];omega,hl,by rw[Zr];omega,t,F,t1,t5,t6,rfl⟩
 have fm:i < g.af.length+g.ak.length:=by omega
 have gk:=EI L fm
 have bl:(List.range (i+1)).foldl (dr g cl at_) bd=dr g cl at_ (S.map λx=>x.2.2) i:=by rw[Z8,Z7,<-hA];rfl
 have ee:aV H' ((getM A (i:Int)).getD (.emp 1)) 2 (aU (bw g cl (bj g i))):=by
  cases hg:getM A (i:Int) with
  | none=>rw[bb i hg];exact .nil
  | some v =>
   obtain⟨b,hp⟩:=Jq hAnd hg
   refine O.1 (v,2,aU (bw g cl (bj g i))) (ZE _ (aaX _ (ZF.2 ⟨((i:Int),v,b),hp.mem_iff.2 (by simp),?_⟩)))
   simp
 have cc:(jU g cl (A.filter λy=>decide (((i+1:Nat):Int)<=y.1))).Sublist (jU g cl (A.filter λy=>decide (((i:Nat):Int)<=y.1))):=by
  have:A.filter (λy=>decide (((i+1:Nat):Int)<=y.1))=(A.filter (λy=>decide (((i:Nat):Int)<=y.1))).filter (λy=>decide (((i+1:Nat):Int)<=y.1)):=by
   rw[List.filter_filter]
   refine List.filter_congr λy _=>?_
   rw[<-Bool.decide_and,decide_eq_decide];omega
  rw[this]
  exact(List.filter_sublist).map _
 simp(disch:=omega)only[↓wr,seval,wq,t8,t48]
 refine Cg (kt:=3) (et:=27) (z:=.emp 1) (by kernel_rfl) (by kernel_rfl) (mj .i64 Tryz.underlying3) (id:=R) (c:=cA) (m:=A) (k:=(i:Int)) (by simp(disch:=omega)only[↓wr,seval,wq]) (by simp(disch:=omega)only[↓wr,seval,wq]) P ?_
 simp(disch:=omega)only[↓wr,seval,wq]
 refine ax.dJ ((QG (HW (bj g i) ds) (by have:=vh (g:=g) (l:=cl) (s:=bj g i);omega) _ H' ee).mono ?_)
 rintro r _ ⟨rfl,or,eg⟩
 have gl:=vh (g:=g) (l:=cl) (s:=bj g i)
 have b1:=I8 (s:=bj g i) cu
 have fs:cT r=some (bw g cl (bj g i)).length:=by rw[or.len,bJ]
 simp(disch:=omega)only[↓wr,seval,wq,fs]
 apply ah.eq<;>intro he
 .have ei:bw g cl (bj g i)=[]:=aaJ.1 (by omega)
  simp(disch:=omega)only[↓wr,seval,wq,t1,t5,t6,t7,t8,t47,t48]
  exact aE hk (by omega) ⟨u,S,M,c,by rw[bl,dr,Zn ei],O.sub (List.Sublist.cons_cons _ (cc.append_left _)),P,t,F,t1,t5,t6,t7,t8,t47,rfl⟩
 have an:bw g cl (bj g i)≠[]:=λe=>he (by rw[e];rfl)
 have ft:∃ v,getM A (i:Int)=some v:=by
  cases hg:getM A (i:Int) with
  | none=>exact absurd (bb i hg) an
  | some v=>exact⟨v,rfl⟩
 obtain⟨v,hg⟩:=ft
 have cC:=eg an
 rw[hg] at cC
 simp only[ZC] at cC
 obtain⟨b,cN⟩:=Jq hAnd hg
 have b2:(jU g cl (A.filter λy=>decide (((i:Nat):Int)<=y.1))).Perm ((r,2,aU (bw g cl (bj g i))) :: jU g cl (A.filter λy=>decide (((i+1:Nat):Int)<=y.1))):=by
  have:=cN.map (λx:Int × V × Nat=>((x.2.1,2,aU (bw g cl (bj g x.1.toNat))):ct))
  simp only[ZJ,ZK] at this
  rw[cC];exact this
 have fx:=zM (S.map λx=>x.2.2) (bw g cl (bj g i))
 have gr:=vp (S.map λx=>x.2.2) (bw g cl (bj g i))
 rw[Zr] at fx
 have b3:=F (bw g cl (bj g i)) b1
 have ek:at_ < S.length:=by omega
 obtain⟨S1,x,p,G,Z,Y⟩:=oA ek
 have hj:x.2.2.aK.length<=40:=(iI.aK at_ x.2.2 (by rw[Zm,Y];rfl)).1
 have a8:∀ B,(fv (S1 ++ x :: B)).getD at_ []=[x.1,x.2.1]:=λB=>by simp[fv,Zi,<-Z]
 have en:∀ (B:List qU) (c:cn),((S1 ++ x :: B).map λx=>x.2.2).modify at_ (λs=>(⟨s.bf,s.aK ++ [c]⟩:aM))=(S1 ++ (x.1,x.2.1,(⟨x.2.2.bf,x.2.2.aK ++ [c]⟩:aM)) :: B).map λx=>x.2.2:=λB c=>by
  rw[ZD,ZJ,<-Z,<-Zr (f:=λx:qU=>x.2.2),Ec,ZD,ZJ]
 simp(disch:=omega)only[↓wr,seval,wq,t1,t5,t6,t7,t8,ag,encS]
 apply ah.dec<;>intro fz
 simp(disch:=omega)only[↓wr,seval,wq,t1,t5,t6,t7,t8,ag,encS]
 have hs:bj g i=(g.af.length:Int) - 1 - i:=by unfold bj;rw[Zk (by omega)];omega
 generalize (g.af.length:Int) - 1 - (i:Int)=sv at hs ⊢
 rotate_left
 simp(disch:=omega)only[↓wr,seval,wq,t1,t5,t6,t7,t8,ag,encS]
 have hs:bj g i=(i:Int):=by unfold bj;rw[Zn (by omega)]
 generalize ((i:Nat):Int)=sv at hs ⊢
 all_goals (
  refine ax.dJ ((KK g L (bw g cl (bj g i)) b1 (by omega) r H' or).mono ?_)
  rintro rk H3 ⟨rfl,k3⟩
  have U:H3 q=.map (cH ja M) c:=by rw[k3 q (by rw[t];simp),t]
  have bn:H3 R=.map (cH (Value.int .i64) A) cA:=by rw[k3 R (by rw[P];simp),P]
  have o3:=O.stay k3
  have fB:aV H3 r 2 (aU (bw g cl (bj g i))):=or.keep λid w=>k3 id (by rw[(or.live w).1];simp)
  simp(disch:=omega)only[↓wr,seval,wq,t6]
  refine Vq (kt:=9) (et:=3) (z:=gi 0) (by kernel_rfl) (by kernel_rfl) (Lk Tryz.underlying9) (id:=q) (c:=c) (m:=M) (k:=gO (bw g cl (bj g i))) (by simp(disch:=omega)only[↓wr,seval,wq]) (by simp(disch:=omega)only[↓wr,seval,wq]) U ?_
  by_cases I:findD (S.map λx=>x.2.2) (bw g cl (bj g i)) < 0
  rw[Zn I] at b3
  rw[b3]
  simp only[Option.getD_none,Option.isSome_none]
  simp(disch:=omega)only[↓wr,seval,wq,t1,t5,t6,t7,t8,a1]
  refine ax.dJ ((KK g L (bw g cl (bj g i)) b1 (by omega) r H3 fB).mono ?_)
  rintro ht H4 ⟨rfl,k4⟩
  have bq:H4 q=.map (cH ja M) c:=by rw[k4 q (by rw[U];simp),U]
  have cf:H4 R=.map (cH (Value.int .i64) A) cA:=by rw[k4 R (by rw[bn];simp),bn]
  have o4:=o3.stay k4
  simp(disch:=omega)only[↓wr,seval,wq,t6]
  refine yq (kt:=9) (et:=3) (by kernel_rfl) (Lk Tryz.underlying9) (id:=q) (c:=c) (m:=M) (k:=gO (bw g cl (bj g i))) (v:=gi S.length) (by simp(disch:=omega)only[↓wr,seval,wq]) (by simp(disch:=omega)only[↓wr,seval,wq]) (by simp(disch:=omega)only[↓wr,seval,wq]) bq ?_
  intro K
  have Q:te g ((S1 ++ x :: (p ++ [(r,.emp 1,(⟨bw g cl (bj g i),[]⟩:aM))])).map λx=>x.2.2) (bN (gO (bw g cl (bj g i))) (gi S.length) c M):=by
   have:=te.put L F b1 I c
   rw[Zr] at this
   refine this.same ?_
   rw[G];simp
  have J:(H4.set q (.map (cH ja (bN (gO (bw g cl (bj g i))) (gi S.length) c M)) K)) q=.map (cH ja (bN (gO (bw g cl (bj g i))) (gi S.length) c M)) K:=by simp[View.set]
  have W:(H4.set q (.map (cH ja (bN (gO (bw g cl (bj g i))) (gi S.length) c M)) K)) R=.map (cH (Value.int .i64) A) cA:=by
   simp only[View.set];rw[Zk fl];exact cf
  have o5:=o4.xw bq (o:=.map (cH ja (bN (gO (bw g cl (bj g i))) (gi S.length) c M)) K)
  generalize H4.set q (.map (cH ja (bN (gO (bw g cl (bj g i))) (gi S.length) c M)) K)=H5 at J W o5 ⊢
  clear bq cf o4 k4
  generalize bN (gO (bw g cl (bj g i))) (gi S.length) c M=M2 at Q J
  simp(disch:=omega)only[↓wr,seval,wq,t1,t5,t6,t7,t8,or.cells,or.fj]
  intro q5 br
  simp(disch:=omega)only[↓wr,seval,wq,bm]
  have aq:∀ b,H5 b≠.dead->b≠q5:=λb hb e=>hb (by rw[e];exact br)
  refine bL (o5.fresh br) (by simp[or.fj,Ch]) (by unfold aA;rw[dh];simp;omega) (by unfold aA;rw[dh];simp;omega) ?_
  intro u2 b4 eH cS
  have d:=cS.map (o5.fresh (o:=.arr 2 [[r,.emp 1]]) br).head (b:=q) (c:=K) (es:=cH ja M2) (by simp only[View.set];rw[Zk (aq q (by rw[J];simp)),J])
  have E:=cS.map (o5.fresh (o:=.arr 2 [[r,.emp 1]]) br).head (b:=R) (c:=cA) (es:=cH (Value.int .i64) A) (by simp only[View.set];rw[Zk (aq R (by rw[W];simp)),W])
  have e3:=(eH.emp (k:=1) (sz:=2)).perm (X5 b2)
  have ar:dr g cl at_ (S.map λx=>x.2.2) i=((S1 ++ x :: (p ++ [(r,.emp 1,(⟨bw g cl (bj g i),[]⟩:aM))])).map λx=>x.2.2).modify at_ (λs=>(⟨s.bf,s.aK ++ [⟨bj g i,(S.length:Int)⟩]⟩:aM)):=by
   rw[dr,Zk an,Zn I,Zr]
   congr 1
   rw[G];simp
  have j:aX b4 ((u2,2,fv (S1 ++ x :: (p ++ [(r,.emp 1,(⟨bw g cl (bj g i),[]⟩:aM))]))) :: (mZ (S1 ++ x :: (p ++ [(r,.emp 1,(⟨bw g cl (bj g i),[]⟩:aM))])) ++ jU g cl (A.filter λy=>decide (((i+1:Nat):Int)<=y.1)))):=by
   have e1:fv (S1 ++ x :: (p ++ [(r,.emp 1,(⟨bw g cl (bj g i),[]⟩:aM))]))=fv S ++ [[r,.emp 1]]:=by rw[G];simp[fv]
   have e2:mZ (S1 ++ x :: (p ++ [(r,.emp 1,(⟨bw g cl (bj g i),[]⟩:aM))]))=mZ S ++ [(r,2,aU (bw g cl (bj g i))),(.emp 1,2,[])]:=by rw[G];simp[mZ];rfl
   rw[e1,e2]
   exact e3
  have cV:(S1 ++ x :: (p ++ [(r,V.emp 1,(⟨bw g cl (bj g i),[]⟩:aM))])).length<=400:=by
   have:=aau List.length G
   simp at this ⊢;omega
  generalize (p ++ [(r,V.emp 1,(⟨bw g cl (bj g i),[]⟩:aM))])=B at ar j Q cV
  generalize (S.length:Int)=to at ar ⊢
  clear eH e3 cS J W o5 aq br
  rotate_left
  rw[Zk I] at b3
  rw[b3]
  simp only[ZC,Option.isSome_some]
  simp(disch:=omega)only[↓wr,seval,wq,t1,t5,t6,t7,t8]
  have ar:dr g cl at_ (S.map λx=>x.2.2) i=((S1 ++ x :: p).map λx=>x.2.2).modify at_ (λs=>(⟨s.bf,s.aK ++ [⟨bj g i,findD (S.map λx=>x.2.2) (bw g cl (bj g i))⟩]⟩:aM)):=by
   rw[dr,Zk an,Zk I,<-G]
  have j:=o3.sub (List.Sublist.cons_cons _ (cc.append_left _))
  have Q:=F
  have cV:(S1 ++ x :: p).length<=400:=by rw[<-G];omega
  have d:=U
  have E:=bn
  generalize H3=b4 at j d E ⊢
  generalize u=u2 at j t5 ⊢
  rw[G] at j Q
  generalize findD (S.map λx=>x.2.2) (bw g cl (bj g i))=to at ar ⊢
  generalize p=B at ar j Q cV
  generalize M=M2 at d Q
  generalize c=K at d
  all_goals (
   obtain⟨id,hu,w⟩:=(show aV b4 u2 2 (fv (S1 ++ x :: B)) from j.head).sl (by rw[dh];simp;omega)
   rw[dh] at hu
   rw[B7] at j
   simp only[Z2,Z4] at j
   simp(disch:=omega)only[↓wr,seval,wq,t1,t5,t6,t7,t8,hu,w,a8 B]
   refine⟨by simp;omega,by rw[dh];simp;omega,?_⟩
   intro q2 N
   have aq:∀ b,b4 b≠.dead->b≠q2:=λb hb e=>hb (by rw[e];exact N)
   simp(disch:=omega)only[↓wr,seval,wq,bm]
   refine bL ((j.perm IM).fresh N) (by simp[aL]) (by unfold aA;simp[fc];omega) (by unfold aA;simp[fc];omega) ?_
   intro e2 e4 b5 e5
   have bs:=e5.map ((j.perm IM).fresh (o:=.arr 2 [[gi sv,gi to]]) N).head (b:=q) (c:=K) (es:=cH ja M2) (by simp only[View.set];rw[Zk (aq q (by rw[d];simp)),d])
   have bx:=e5.map ((j.perm IM).fresh (o:=.arr 2 [[gi sv,gi to]]) N).head (b:=R) (c:=cA) (es:=cH (Value.int .i64) A) (by simp only[View.set];rw[Zk (aq R (by rw[E];simp)),E])
   have cg:e4 id=.arr 2 (fv (S1 ++ x :: B)):=((b5.own 1 rfl).live (by rw[hu];rfl)).1
   simp(disch:=omega)only[↓wr,seval,wq,t1,t5,t6,t7,t8,t47,t48,hu,cg,a8 B,b5.head.cells,b5.head.fj]
   have e6:(fv (S1 ++ x :: B)).set at_ [x.1,e2]=fv (S1 ++ (x.1,e2,(⟨x.2.2.bf,x.2.2.aK ++ [⟨bj g i,to⟩]⟩:aM)) :: B):=by
    rw[<-Z];simp[fv]
   have fS:fc (x.2.2.aK ++ [⟨bj g i,to⟩])=fc x.2.2.aK ++ [[gi sv,gi to]]:=by rw[hs];simp[fc,iX]
   have e7:=b5.perm (.swap _ _ _)
   rw[hu] at e7
   have c3:=((e7.put (es':=fv (S1 ++ (x.1,e2,(⟨x.2.2.bf,x.2.2.aK ++ [⟨bj g i,to⟩]⟩:aM)) :: B)) (by rw[dh,dh];simp) (by rw[dh])).perm (.swap _ _ _)).perm IM.symm
   rw[<-fS] at c3
   rw[<-hu] at c3
   rw[e6]
   have ch:∀ b c es,e4 b=.map es c->b≠id:=λb c es hb e=>by rw[e,cg] at hb;simp at hb
   refine⟨by simp;omega,by rw[dh];simp;omega,aE hk (by omega) ⟨u2,_,M2,K,?_,by rw[B7];simp only[Z2,Z4];exact c3,?_,?_,?_,t1,by first | rfl | exact t5 | exact hu.symm,t6,t7,t8,t47,rfl⟩⟩
   .rw[bl,ar,en];simp
   .simp only[View.set];rw[Zk (ch R _ _ bx)];exact bx
   .simp only[View.set];rw[Zk (ch q _ _ bs)];exact bs
   .refine Q.same ?_
    simp))
def nj:SC :=
 ae [ab [aS 73 .lss 72 71],bT 73 (.exit 2),.block 3 (ae [ab [aH 74 2 70 72,aT 75 2 74,((some 6),.op (.alloc [(.val (.int .i64 0)),(.val (.int .i64 0))])),bK 2 6 75],ab [ao 76 0 6,ai 77 76,aG 78 .geq 77 0],.cond (.tmp 78) (.region true [⟨none,[aa 79 0,cQ 80 79,ao 81 8 80,ai 82 81,aa 83 2,aH 84 1 82 83,ai 85 84,ao 86 0 6,ai 87 86,((some 88),.op (.bO 1 1 [(.val (.int .i64 0))] [(0,(.tmp 87))])),bh 89 120 [88],aS 90 .or 85 89,aH 91 1 82 83,bK 1 91 90]⟩]) (ae [ab [aa 92 0,cQ 93 92,ao 94 5 93,ai 95 94,ao 96 0 6,ai 97 96,((some 98),.op (.arith .sub (.val (.val (.int .i64 (-1)))) (.tmp 97))),aH 99 1 95 98,ai 100 99],bc 100 (.kU [(103,112)] [⟨none,[aa 101 0,cQ 102 101,ao 103 9 102,ai 104 103,aa 105 2,aa 106 0,cQ 107 106,ao 108 9 107,ai 109 108,aa 110 2,aH 111 1 109 110,ai 112 111,aa 113 0,cQ 114 113,ao 115 6 114,ai 116 115,aa 117 4,ao 118 0 6,ai 119 118,((some 120),.op (.arith .sub (.val (.val (.int .i64 (-1)))) (.tmp 119))),((some 121),.op (.build [(.val (.int .i64 0)),(.val (.int .i64 0))] [(0,1,(.tmp 117)),(1,1,(.tmp 120))])),((some 122),.op (.old (.lookup 110 (.tmp 116) (.tmp 121) false) 3)),((some 123),.op (.bO 1 1 [(.val (.int .i64 0))] [(0,(.tmp 122))])),eE 124 1 8 112 123,aH 125 1 104 105,bK 1 125 124]⟩])])]),ab [aG 126 .add 72 1,aa 72 126]]
def tn:SC :=
 ae [ab [aS 22 .lss 21 20],bT 22 (.exit 0),.block 1 (ae [ab [aa 23 21,aH 24 2 19 21,aT 25 2 24,((some 3),.op (.alloc [(.val (.int .i64 0)),(.val (.int .i64 0))])),aa 2 23,bK 2 3 25],ab [aa 26 0,ao 27 0 3,ai 28 27,ao 29 1 3,ai 30 29,((some 31),.op (.arith .sub (.val (.val (.int .i64 (-1)))) (.tmp 30))),bh 32 119 [26,28,31],aa 4 32],ae [.region false [⟨none,[ao 33 0 3,ai 34 33,aG 35 .eql 34 0,aa 36 35]⟩,⟨(some (36,true)),[ao 37 1 3,ai 38 37,aa 39 0,cQ 40 39,ao 41 0 40,ao 42 3 41,ai 43 42,aS 44 .eql 38 43]⟩,⟨none,[eF 45 36 44]⟩],bc 45 (.region true [⟨none,[aa 46 0,cQ 47 46,ao 48 8 47,ai 49 48,aa 50 2,aH 51 1 49 50,ai 52 51,aa 53 0,cQ 54 53,ao 55 0 54,ao 56 0 55,ai 57 56,aP 58 57,((some 59),.op (.bO 1 1 [(.val (.int .i64 0))] [(0,(.tmp 58))])),bh 60 120 [59],aS 61 .or 52 60,aH 62 1 49 50,bK 1 62 61]⟩])],ab [aa 63 0,cQ 64 63,ao 65 4 64,ai 66 65,aa 67 4,aH 68 2 66 67,ao 69 1 68,ai 70 69,aP 71 70,aQ 72 0],bU 2 nj]),ab [aG 127 .add 21 1,aa 21 127]]
def wh:SF:=⟨ae [ab [aa 7 0,aa 8 0,cQ 9 8,ao 10 7 9,ai 11 10,aP 12 11,((some 13),.op (.make 1 24 [(.emp 1)] (.tmp 12) (.tmp 12))),cQ 14 7,ao 15 9 14,bK 1 15 13],ae [ab [aa 16 0,cQ 17 16,ao 18 7 17,ai 19 18,aP 20 19,aQ 21 0],bU 0 tn],ab [aa 128 0,bh 129 75 [128]]],
 [],130⟩
theorem A8:aN Tryz.prog 73 [100000]=some wh:=by kernel_rfl
theorem VA {α:Type} {a b c d r:α} {X Y:List α} : (a :: b :: c :: d :: (X ++ r :: Y)).Perm (r :: d :: a :: b :: c :: (X ++ Y)) :=
 (ZY (l₁:=a :: b :: c :: d :: X) (a:=r) (l₂:=Y)).trans (.cons _ (ZY (l₁:=[a,b,c]) (a:=d) (l₂:=X ++ Y)))
section
variable {g:aj} {a:List aM} {H:View} {W qn cM:Nat} {M:bW (Int × Int)} {uw:V} {s e:Nat} {ws:List (Int × Int)} {Sl:List BV} {A:List (V × List Nat)} {L:List ct}
theorem dd.stay (h:dd g a H W qn cM M uw s e ws Sl A L) {H':View} (b:∀ id,H id≠.dead->H' id=H id):dd g a H' W qn cM M uw s e ws Sl A L :=
 ⟨h.own.stay b,by rw[b qn (by rw[h.mp];simp)];exact h.mp,h.bo,h.num,h.sl,h.al⟩
theorem dd.fresh (h:dd g a H W qn cM M uw s e ws Sl A L) {q:Nat} (hq:H q=.dead) {o:cU} : dd g a (H.set q o) W qn cM M uw s e ws Sl A L :=
 h.stay λid b=>by simp only[View.set];rw[Zk (λe=>b (by rw[e];exact hq))]
theorem dd.at (h:dd g a H W qn cM M uw s e ws Sl A L) (f:1<=ws.length):H W=.arr 10 [[.aD (g.af.map bS),.aD (g.ak.map λs=>[gs s]),.aD (g.rules.map aO),gi g.start,ba a,bP (av g false),.mp qn,uw,.sl s 0 ws.length 1,.sl e 0 ws.length 1]] /\
  (∃ w,uw=.sl w 0 ws.length 2/\H w=.arr 2 (nY ws))/\H s=.arr 1 (bV Sl)/\H e=.arr 1 (aZ A)/\W≠s/\W≠e/\s≠e:=by
 have b:=h.sl
 have c:=h.al
 refine⟨h.own.is 0 rfl (by simp),?_,h.own.is 2 rfl (by simp;omega),h.own.is 3 rfl (by simp[aZ];omega),h.own.HH 0 2 rfl rfl (by decide),h.own.HH 0 3 rfl rfl (by decide),h.own.HH 2 3 rfl rfl (by decide)⟩
 obtain⟨w,h1,d⟩:=(h.own.own 1 rfl).sl (by simp;omega)
 exact⟨w,by rw[h1,Zr],d⟩
theorem dd.Bl (h:dd g a H W qn cM M uw s e ws Sl A L) {Sl':List BV} (hl:Sl'.length=ws.length):dd g a (H.set s (.arr 1 (bV Sl'))) W qn cM M uw s e ws Sl' A L:=by
 have p:∀ x y z:ct,∀ L:List ct,(x :: y :: z :: L).Perm (z :: x :: y :: L):=λx y z L=>ZY (l₁:=[x,y]) (a:=z) (l₂:=L)
 refine⟨((h.own.perm (p _ _ _ _)).put (es':=bV Sl') (by simp[hl,h.sl]) (by simp[h.sl])).perm (p _ _ _ _).symm,?_,h.bo,h.num,hl,h.al⟩
 have:=h.own.Cu h.mp (.sl s 0 ws.length 1,1,bV Sl) (by simp)
 simp only[View.set];rw[Zk (λe=>this (by rw[e];rfl))];exact h.mp
theorem dd.row (h:dd g a H W qn cM M uw s e ws Sl A L) {b c:List (V × List Nat)} {u:V} {l:List Nat} (d:A=b ++ (u,l) :: c):aX H ((u,1,ga l) :: (.sl e 0 ws.length 1,1,aZ A) :: (.sl W 0 1 10,10,[[.aD (g.af.map bS),.aD (g.ak.map λs=>[gs s]),.aD (g.rules.map aO),gi g.start,ba a,bP (av g false),.mp qn,uw,.sl s 0 ws.length 1,.sl e 0 ws.length 1]]) :: (uw,2,nY ws) :: (.sl s 0 ws.length 1,1,bV Sl) :: (jy b ++ (jy c ++ L))):=by
 have h1:=h.own
 rw[show jy A ++ L=jy b ++ (u,1,ga l) :: (jy c ++ L) by rw[d];simp[jy]] at h1
 exact h1.perm VA
theorem dd.Xb (h:dd g a H W qn cM M uw s e ws Sl A L) {b c:List (V × List Nat)} {u d:V} {l l':List Nat} (j:A=b ++ (u,l) :: c) {H':View} {es:List (List V)} (i:es=ga l')
  (k:aX H' ((d,1,es) :: (.sl e 0 ws.length 1,1,aZ A) :: (.sl W 0 1 10,10,[[.aD (g.af.map bS),.aD (g.ak.map λs=>[gs s]),.aD (g.rules.map aO),gi g.start,ba a,bP (av g false),.mp qn,uw,.sl s 0 ws.length 1,.sl e 0 ws.length 1]]) :: (uw,2,nY ws) :: (.sl s 0 ws.length 1,1,bV Sl) :: (jy b ++ (jy c ++ L))))
  (hm:H' qn=.map (bQ fu M) cM):dd g a (H'.set e (.arr 1 (aZ (b ++ (d,l') :: c)))) W qn cM M uw s e ws Sl (b ++ (d,l') :: c) L:=by
 have f:=h.al
 have h1:=((k.perm (.swap _ _ _)).put (es':=aZ (b ++ (d,l') :: c)) (by rw[j];simp[aZ]) (by rw[aZ,Zr,f])).perm (.swap _ _ _)
 rw[i] at h1
 refine⟨?_,?_,h.bo,h.num,h.sl,by rw[<-f,j];simp⟩
 .rw[show jy (b ++ (d,l') :: c) ++ L=jy b ++ (d,1,ga l') :: (jy c ++ L) by simp[jy]]
  exact h1.perm VA.symm
 .have:=k.Cu hm (.sl e 0 ws.length 1,1,aZ A) (by simp)
  simp only[View.set];rw[Zk (λe=>this (by rw[e];rfl))];exact hm
theorem dd.Vx (h:dd g a H W qn cM M uw s e ws Sl A L) {b:Nat} (hq:H b=.dead):dd g a ((H.set b (.arr 1 (List.replicate ws.length [.emp 1]))).set W (.arr 10 [[.aD (g.af.map bS),.aD (g.ak.map λs=>[gs s]),.aD (g.rules.map aO),gi g.start,ba a,bP (av g false),.mp qn,uw,.sl s 0 ws.length 1,.sl b 0 ws.length 1]])) W qn cM M uw s b ws Sl (List.replicate ws.length (.emp 1,[])) L:=by
 have h1:aX H ((.sl W 0 1 10,10,[[.aD (g.af.map bS),.aD (g.ak.map λs=>[gs s]),.aD (g.rules.map aO),gi g.start,ba a,bP (av g false),.mp qn,uw,.sl s 0 ws.length 1,.sl e 0 ws.length 1]]) :: (uw,2,nY ws) :: (.sl s 0 ws.length 1,1,bV Sl) :: L) :=
  h.own.sub (.cons_cons _ (.cons_cons _ (.cons_cons _ (.cons _ (List.sublist_append_right _ _)))))
 have i:=h1.new hq 1 (List.replicate ws.length [V.emp 1])
 have j:=(i.perm (.swap _ _ _)).put (es':=[[.aD (g.af.map bS),.aD (g.ak.map λs=>[gs s]),.aD (g.rules.map aO),gi g.start,ba a,bP (av g false),.mp qn,uw,.sl s 0 ws.length 1,.sl b 0 ws.length 1]]) rfl rfl
 have f:=((j.perm (.cons _ (ZY (l₁:=[_,_]) (l₂:=L)).symm)).TX ws.length).perm (.cons _ (.cons _ (.cons _ (.cons _ List.perm_append_comm))))
 have c:List.replicate ws.length [V.emp 1]=aZ (List.replicate ws.length ((V.emp 1,[]):V × List Nat)):=by simp[aZ]
 rw[aaq] at f
 refine⟨?_,?_,h.bo,h.num,h.sl,by simp⟩
 .rw[<-c];exact f
 .have d:=h.own.Cu h.mp _ (abq ..)
  simp only[View.set]
  rw[Zk (λe=>d (by rw[e];rfl)),Zk (λe=>by have:=h.mp;rw[e,hq] at this;simp at this)]
  exact h.mp
theorem GL {A:List (V × List Nat)} {x:Nat} (a:x < A.length):((A.getD x (.any,[])).1,1,ga (A.getD x (.any,[])).2)∈jy A:=by
 have h:A[x]?=some (A.getD x (.any,[])):=getD_some a
 exact ZF.2 ⟨_,Zp h,rfl⟩
theorem dd.WX (h:dd g a H W qn cM M uw s e ws Sl A L) (i:1<=ws.length) {E:Nat->List Nat} (hE:∀ x,x < ws.length->(A.getD x (.any,[])).2=E x) (c:∀ x,x < ws.length->(E x).length<=1000000000/\∀ y∈E x,y < ws.length) :
  Xy ws.length E H W s e (A.map (·.1)) (.aD (g.af.map bS),.aD (g.ak.map λs=>[gs s]),.aD (g.rules.map aO),gi g.start,ba a,bP (av g false),.mp qn,uw):=by
 obtain⟨hW,⟨w,d,hw⟩,hs,he,j,l,k⟩:=h.at i
 have f:=h.al
 have hu:∀ x,x < ws.length->(A.map (·.1)).getD x .any=(A.getD x (.any,[])).1:=λx b=>by
  simp[Zi,Zj (show x < A.length by omega)]
 refine⟨hW,by rw[he];simp[aZ],by simpa using f,λx b=>?_,c,by rw[d];rfl,j,Ne.symm k,λx b=>?_⟩
 .rw[hu x b,<-hE x b]
  exact h.own.1 _ (by simp only[Zz];exact .inr (.inr (.inr (.inr (aaT _ (GL (x:=x) (by omega)))))))
 .rw[hu x b]
  have p:∀ x y z:ct,∀ L:List ct,(x :: y :: z :: L).Perm (z :: x :: y :: L):=λx y z L=>ZY (l₁:=[x,y]) (a:=z) (l₂:=L)
  exact(h.own.perm (p _ _ _ _)).off rfl _ (by simp only[Zz];exact .inr (.inr (.inr (aaT _ (GL (x:=x) (by omega))))))
end
def Qq (n:Nat) (Sl:List BV) (A:List (V × List Nat)) (fS:Nat->BV) (fA:Nat->List Nat):Prop:=∀ y,y < n->Sl.getD y 0=fS y/\(A.getD y (.any,[])).2=fA y
theorem C2 {α:Type} {l r:List α} {x y d:α} {z:Nat} (h:z≠l.length):(l ++ x :: r).getD z d=(l ++ y :: r).getD z d:=by
 simp only[Zi]
 rcases ZI z l.length with q | q
 .rw[ZP q,ZP q]
 .rw[Z3 q,Z3 q]
  obtain⟨k,hk⟩:∃ k,z - l.length=k+1:=⟨z - l.length - 1,by omega⟩
  rw[hk,aae,aae]
theorem Fk (b:BV) (l:List cn) (e:cn):pJ b (l ++ [e])=if 0<=e.sym then pJ b l ||| dQ e.sym else pJ b l:=by
 unfold pJ;rw[Z7];rfl
theorem HZ (g:aj) (ws:List (Int × Int)) (q:Nat) (l:List cn) (e:cn):uQ g ws q (l ++ [e])=if e.sym < 0/\(av g false).getD (-1 - e.sym).toNat false=true then uQ g ws q l ++ [wT ws ((q:Int),-1 - e.sym)] else uQ g ws q l:=by
 unfold uQ
 rw[aaS,ZD]
 by_cases h:e.sym < 0/\(av g false).getD (-1 - e.sym).toNat false=true
 .rw[Zn h,List.filter_cons_of_pos (by simp only[h.1,h.2];rfl)];simp
 .rw[Zk h]
  have:(decide (e.sym < 0) && (av g false).getD (-1 - e.sym).toNat false)=false:=by
   rw[Bool.eq_false_iff];simpa using h
  rw[List.filter_cons_of_neg (by simp only[this];simp)]
  simp
theorem zO {g:aj} {a:List aM} (B:cL g a) (bn:bI g=true) (ha:a.length<=300) {W qn cM:Nat} {M:bW (Int × Int)} {uw:V} {s e2:Nat} {i q:Nat} (hi:i < (bk a).length) (hq:q < a.length) (S0:BV) (fS:Nat->BV) (fA:Nat->List Nat) {T:Env} {H:View} {Q:Exit->Env->View->Prop} {v:cO (T,H,Q)}
  (hJ:∃ (Sl:List BV) (A:List (V × List Nat)),dd g a H W qn cM M uw s e2 (bk a) Sl A []/\Qq (bk a).length Sl A (λy=>if y=i then S0 else fS y) (λy=>if y=i then [] else fA y))
  (ht:T 0=.ptr W 0 0/\T 2=gi i/\T 4=gi q/\T 19=uw/\T 20=gi (bk a).length/\T 21=gi i/\T 70=.aD (fc (a.getD q bg).aK)/\T 71=gi (a.getD q bg).aK.length/\T 72=gi 0)
  (hQ:∀ (R:Env) (H':View),(∃ (Sl:List BV) (A:List (V × List Nat)),dd g a H' W qn cM M uw s e2 (bk a) Sl A []/\Qq (bk a).length Sl A (λy=>if y=i then pJ S0 (a.getD q bg).aK else fS y) (λy=>if y=i then uQ g (bk a) q (a.getD q bg).aK else fA y)) ->
   R 0=.ptr W 0 0->R 19=uw->R 20=gi (bk a).length->R 21=gi i->Q (.exit 2) R H'):aR Tryz.prog nj T H Q v:=by
 have S:=rn B
 have ca:(bk a).length<=40 * a.length:=mP B.ok.aK a.length
 have U:=Zp (getD_some (d:=bg) hq)
 have cc:=B.ok.aK _ U
 have bq:=B.ok.sym _ U
 have X:∀ e∈(a.getD q bg).aK,fa a q e.sym:=λe he=>⟨e,he,rfl⟩
 have Y:∀ e∈(a.getD q bg).aK,fT g e.sym=true:=λe he=>by
  obtain⟨y,hy,hn⟩:=(B.oC hq).1 (X e he)
  exact om B.dq (B.has hq hy) hn
 generalize a.getD q bg=Z at *
 obtain⟨br,A0,an,G⟩:=hJ
 obtain⟨t0,t2,t4,t19,t20,t21,t70,t71,t72⟩:=ht
 refine aR.up Z.aK.length (λj T H'=>∃ (Sl:List BV) (A:List (V × List Nat)),dd g a H' W qn cM M uw s e2 (bk a) Sl A []/\Qq (bk a).length Sl A (λy=>if y=i then pJ S0 (Z.aK.take j) else fS y) (λy=>if y=i then uQ g (bk a) q (Z.aK.take j) else fA y) /\
  T 0=.ptr W 0 0/\T 2=gi i/\T 4=gi q/\T 19=uw/\T 20=gi (bk a).length/\T 21=gi i/\T 70=.aD (fc Z.aK)/\T 71=gi Z.aK.length/\T 72=gi j) ⟨br,A0,an,by simpa [pJ,uQ] using G,t0,t2,t4,t19,t20,t21,t70,t71,t72⟩ ?_
 clear an G t0 t2 t4 t19 t20 t21 t70 t71 t72
 rintro j k T H1 hk ⟨Sl,A,hI,t,t0,t2,t4,t19,t20,t21,t70,t71,t72⟩
 simp(disch:=omega)only[↓wr,seval,wq,nj,t0,t2,t4,t70,t71,t72]
 apply ah.dec<;>intro hc
 rotate_left
 .simp(disch:=omega)only[↓wr,seval,wq]
  rw[Zx (by omega)] at t
  exact hQ _ _ ⟨Sl,A,hI,t⟩ t0 t19 t20 t21
 have hy:Z.aK[j]?=some (Z.aK[j]'(by omega)):=Zj (by omega)
 have C:=Zs (show j < Z.aK.length by omega)
 have D:Z.aK.take (j+1)=Z.aK.take j ++ [Z.aK[j]'(by omega)]:=by rw[ZG,hy];rfl
 generalize Z.aK[j]'(by omega)=y at hy C D
 have cf:=bq y C
 have bs:=X y C
 have aq:=rl (Y y C)
 have hT:=B.dq.af
 have hN:=B.dq.ak
 have E:=t i hi
 simp only[if_true] at E
 simp(disch:=omega)only[↓wr,seval,wq,t0,t2,t4,t70,t71,t72,fc,Zm,hy,Zq,iX]
 intro q6 ar
 have f:=hI.fresh ar (o:=.arr 2 [[gi y.sym,gi y.to]])
 have r:(H1.set q6 (.arr 2 [[gi y.sym,gi y.to]])) q6=.arr 2 [[gi y.sym,gi y.to]]:=by simp[View.set]
 rw[set_set]
 generalize H1.set q6 (.arr 2 [[gi y.sym,gi y.to]])=H6 at f r ⊢
 clear hI ar
 obtain⟨hW,⟨w2,b9,hw⟩,hs,he,n1,n2,n3⟩:=f.at S
 have bx:=f.sl
 have a1:=pz (l:=Sl) (i:=i) (by omega)
 apply ah.dec<;>intro h0
 .simp(disch:=omega)only[↓wr,seval,wq,t0,t2,hW,hs,a1,r]
  refine⟨hi,by omega,λq7 b0=>?_⟩
  refine ax.wE (He y.sym) (by kernel_rfl) (.val _) ⟨ep.U2 (l:=[y.sym]) (.inr ⟨q7,rfl,by simp[View.set]⟩),trivial⟩ ?_
  have I:=f.fresh b0 (o:=.arr 1 [[gi y.sym]])
  generalize H6.set q7 (.arr 1 [[V.val (.int .i64 y.sym)]])=H7 at I ⊢
  obtain⟨-,-,b1,-⟩:=I.at S
  have e1:(bV Sl).set i [gw (sF Sl i ||| dQ y.sym)]=bV (Sl.set i (sF Sl i ||| dQ y.sym)):=by simp[aaR]
  simp(disch:=omega)only[↓wr,seval,wq,t0,t2,t4,t19,t20,t21,t70,t71,t72,b1,a1,e1,vi]
  refine⟨hi,by omega,?_⟩
  refine aE hk (by omega) ⟨Sl.set i (sF Sl i ||| dQ y.sym),A,I.Bl (by simp[bx]),λz J=>?_,t0,t2,t4,t19,t20,t21,t70,t71,by first | rfl | (congr 2)⟩
  have n:=t z J
  rw[D,Fk,HZ,Zn h0,Zk (λh=>by omega),eS]
  refine⟨?_,n.2⟩
  by_cases e:z=i
  .subst e
   rw[Zn ⟨rfl,by omega⟩]
   simp only[if_true]
   rw[sF,E.1]
  .rw[Zk (λh=>e h.1.symm)]
   simp only[Zk e] at n ⊢
   exact n.1
 .have a6:(-1 - y.sym).toNat < (av g false).length:=by
   rw[fV bn]
   unfold kF at aq
   rw[Zn (by omega)] at aq
   omega
  have a7:(av g false)[(-1 - y.sym).toNat]?=some ((av g false).getD (-1 - y.sym).toNat false):=getD_some a6
  have p:=HZ g (bk a) q (Z.aK.take j) y
  rw[<-D] at p
  have K:=Fk S0 (Z.aK.take j) y
  rw[<-D,Zk h0] at K
  generalize hb:(av g false).getD (-1 - y.sym).toNat false=b at a7 p
  simp(disch:=omega)only[↓wr,seval,wq,t0,hW,r,bP,Zm,a7,Zq]
  apply ah.split<;>intro L
  rotate_left
  .simp(disch:=omega)only[↓wr,seval,wq,t0,t2,t4,t19,t20,t21,t70,t71,t72]
   rw[L,Zk (by simp)] at p
   exact aE hk (by omega) ⟨Sl,A,f,λz J=>by rw[K,p];exact t z J,t0,t2,t4,t19,t20,t21,t70,t71,by first | rfl | (congr 2)⟩
  rw[L,Zn ⟨by omega,rfl⟩] at p
  have b2:=f.al
  obtain⟨O,⟨u,l⟩,P,rfl,w,_⟩:=oA (l:=A) (i:=i) (by omega)
  have x:=f.row rfl
  have a8:(aZ (O ++ (u,l) :: P)).getD i []=[u]:=by rw[<-w];simp[aZ]
  have bb:((O ++ (u,l) :: P).getD i (V.any,([]:List Nat))).2=l:=by rw[<-w];simp
  have b3:(aZ (O ++ (u,l) :: P)).length=(bk a).length:=by rw[aZ,Zr];exact b2
  have N:(bk a)[wT (bk a) ((q:Int),-1 - y.sym)]?=some ((q:Int),-1 - y.sym):=ky (dB.2 ⟨by omega,by rw[show -1 - (-1 - y.sym)=y.sym by omega];exact bs⟩)
  have bd:=f.num _ _ N
  have bl:=(Zy.1 N).1
  generalize wT (bk a) ((q:Int),-1 - y.sym)=kn at N bd bl p
  simp(disch:=omega)only[↓wr,seval,wq,t0,t2,t4,hW,he,a8,r]
  refine⟨hi,by omega,?_⟩
  have b4:dK Tryz.prog 110=some (116,3):=by kernel_rfl
  have J:zeroV Tryz.prog 3=some (gi 0):=by kernel_rfl
  refine IS (kv:=fu) (kt:=116) (et:=3) (z:=gi 0) (id:=qn) (c:=cM) (m:=M) (k:=((q:Int),-1 - y.sym)) b4 J (Cl yZ) (by first | rfl | simp(disch:=omega)only[↓wr,seval,wq]) (by first | rfl | (simp(disch:=omega)only[↓wr,seval,wq];rfl)) f.mp ?_
  rw[bd,ZC]
  have cg:l.length<=40:=by
   rw[<-bb,E.2]
   unfold uQ
   rw[Zr]
   have h1:=aac (λe=>decide (e.sym < 0) && (av g false).getD (-1 - e.sym).toNat false) (Z.aK.take j)
   rw[Z6] at h1
   omega
  simp(disch:=omega)only[↓wr,seval,wq]
  intro q8 F
  simp(disch:=omega)only[↓wr,seval,wq,bm]
  refine bL (x.fresh F) (by simp[aL]) (by unfold aA;simp;omega) (by unfold aA;simp;omega) ?_
  intro u2 H8 o8 l8
  have b5:=o8.is 1 rfl (by rw[b3];omega)
  have b7:=l8.map (x.fresh F).head (b:=qn) (c:=cM) (es:=bQ fu M) (by
   have:=f.mp
   simp only[View.set];rw[Zk (λe=>by rw[<-e,this] at F;simp at F)];exact this)
  have b8:(aZ (O ++ (u,l) :: P)).set i [u2]=aZ (O ++ (u2,l ++ [kn]) :: P):=by rw[<-w];simp[aZ]
  simp(disch:=omega)only[↓wr,seval,wq,t0,t2,t4,t19,t20,t21,t70,t71,t72,b5,a8,o8.head.cells,o8.head.fj,b8]
  refine⟨hi,by omega,?_,?_⟩
  .rcases x.head with ⟨_,kk,h⟩ | ⟨m,h,hm⟩
   .rw[show u=.emp kk from h,yx];trivial
   .rw[show u=.sl m 0 _ 1 from h,B8]
    intro e
    rw[<-e,hW] at hm;simp at hm
  .refine aE hk (by omega) ⟨Sl,O ++ (u2,l ++ [kn]) :: P,f.Xb rfl (l':=l ++ [kn]) (es:=ga l ++ [[gi (kn:Int)]]) (by simp) o8 b7,λz J=>?_,t0,t2,t4,t19,t20,t21,t70,t71,by first | rfl | (congr 2)⟩
   have n:=t z J
   rw[K,p]
   refine⟨n.1,?_⟩
   by_cases e:z=i
   .subst e
    simp only[if_true]
    rw[<-E.2,bb,<-w]
    simp
   .rw[C2 (y:=(u,l)) (by rw[w];exact e)]
    simp only[Zk e] at n ⊢
    exact n.2
theorem mF.congr {n:Nat} {E:Nat->List Nat} {S S':Nat->BV} (hE:∀ x,x < n->∀ y∈E x,y < n) (c:∀ x,x < n->S x=S' x) {z t:Nat} (a:z < n):mF E S z t↔mF E S' z t:=by
 have key:∀ {z w:Nat},jO E z w->z < n->w < n:=by
  intro z w h
  induction h with
  | refl=>exact id
  | step h1 _ d=>exact λa=>d (hE _ a _ h1)
 constructor
 .rintro⟨w,h1,b⟩
  exact⟨w,h1,by rw[<-c w (key h1 a)];exact b⟩
 .rintro⟨w,h1,b⟩
  exact⟨w,h1,by rw[c w (key h1 a)];exact b⟩
theorem U1 {g:aj} {a:List aM} (h:∀ s∈a,s.aK.length<=40) (x:Int × Int):(ot g a x).length<=40:=by
 unfold ot uQ
 rw[Zr]
 refine aai (aac _ _) ?_
 generalize eK a x.1.toNat (-1 - x.2)=q
 rcases ZI q a.length with k | k
 .exact h _ (Zp (getD_some k))
 .rw[Zi,ZT k];simp[bg]
theorem V6 {g:aj} {a:List aM} (f:cL g a) (aq:bI g=true) (ha:a.length<=300) {H:View} {W qn cM:Nat} {M:bW (Int × Int)} {uw:V} {s e:Nat} (R:dd g a H W qn cM M uw s e (bk a) (List.replicate (bk a).length 0) (List.replicate (bk a).length (.emp 1,[])) []) :
  au Tryz.prog 73 [.ptr W 0 0] H λ_ H'=>∃ (e':Nat) (Sl:List BV) (A:List (V × List Nat)),dd g a H' W qn cM M uw s e' (bk a) Sl A []/\∀ (x p t:Nat) (B:Int),(bk a)[x]?=some ((p:Int),B)->((sF Sl x).getLsbD t=true↔qx g a p B t):=by
 refine au.of mixed A8 ?_
 have d:=rn f
 have ch:(bk a).length<=40 * a.length:=mP f.ok.aK a.length
 obtain⟨hW,⟨w,ar,hw⟩,hs,he,n1,n2,n3⟩:=R.at d
 have bn:cT uw=some (bk a).length:=by rw[ar];rfl
 have bq:∀ q,H q=.dead->W≠q:=λq hq e=>by rw[e,hq] at hW;simp at hW
 simp(disch:=omega)only[↓wr,seval,wq,wh,hW,bn]
 refine⟨⟨by omega,by unfold aA;omega,by unfold aA;omega⟩,λh0=>by omega,λ_ e2 a1=>?_⟩
 have w1:=bq e2 a1
 simp(disch:=omega)only[↓wr,seval,wq,w1,bn]
 have a6:=R.Vx a1
 generalize ((H.set e2 (.arr 1 (List.replicate (bk a).length [V.emp 1]))).set W (.arr 10 [[V.aD (g.af.map bS),.aD (g.ak.map λs=>[gs s]),.aD (g.rules.map aO),gi g.start,ba a,bP (av g false),.mp qn,uw,.sl s 0 (bk a).length 1,.sl e2 0 (bk a).length 1]]))=H2 at a6 ⊢
 refine aR.up (bk a).length (λi T H'=>∃ (Sl:List BV) (A:List (V × List Nat)),dd g a H' W qn cM M uw s e2 (bk a) Sl A []/\Qq (bk a).length Sl A (λy=>if y < i then s8 g a (dC a y) else 0) (λy=>if y < i then ot g a (dC a y) else [])/\T 0=.ptr W 0 0/\T 19=uw/\T 20=gi (bk a).length/\T 21=gi i)
  ⟨_,_,a6,λy hy=>by simp[Zi,hy],rfl,rfl,rfl,rfl⟩ ?_
 clear a6 R a1 hW hw hs he n1 n2 n3 bq w1
 rintro i k T H' hk ⟨Sl,A,R,v,t0,t19,t20,t21⟩
 obtain⟨hW,⟨w',C,hw⟩,hs,he,n1,n2,n3⟩:=R.at d
 have b4:w'=w:=by rw[ar] at C;simp only[V.sl.injEq] at C;exact C.1.symm
 subst b4
 simp(disch:=omega)only[↓wr,seval,wq,tn,t0,t19,t20,t21]
 apply ah.dec<;>intro hc
 rotate_left
 .have hi:i=(bk a).length:=by omega
  subst hi
  have Z:Qq (bk a).length Sl A (λy=>s8 g a (dC a y)) (λy=>ot g a (dC a y)):=λy hy=>by
   have:=v y hy
   simpa only [hy,if_true] using this
  have b5:=R.WX d (E:=λy=>ot g a (dC a y)) (λx m=>(Z x m).2) (λx m=>⟨aai (U1 f.ok.aK _) (by omega),NN f m⟩)
  simp(disch:=omega)only[↓wr,seval,wq,t0]
  refine ax.dJ ((Ik b5 d (by omega) Sl hs R.sl).mono ?_)
  rintro r H5 ⟨Sl',k1,k2,k3,k4⟩
  simp(disch:=omega)only[↓wr,seval,wq]
  have D:=(R.Bl (Sl':=Sl') k1).stay (H':=H5) λid a7=>by
   simp only[View.set] at a7 ⊢
   by_cases e:id=s
   .rw[Zn e,e];exact k2
   .rw[Zk e] at a7 ⊢
    exact k4 id a7 e
  refine⟨e2,Sl',A,D,λx p t B m=>?_⟩
  have br:=(Zy.1 m).1
  rw[k3 x t br,mF.congr (S:=sF Sl) (λx m=>NN f m) (S':=λy=>s8 g a (dC a y)) (λz n=>(Z z n).1) br]
  exact QW f m
 have m:(bk a)[i]?=some (dC a i):=getD_some (by omega)
 obtain⟨p,hp⟩:=vq (Zp m)
 have an:=Zp m
 have F:=v i (by omega)
 generalize a8:dC a i=x at m hp an
 obtain⟨x1,B⟩:=x
 simp only at hp
 have b7:x1=p:=by simpa using aau Prod.fst hp
 subst b7
 clear hp
 obtain⟨cj,hE⟩:=dB.1 an
 obtain⟨_,_,_,ck,u,b8⟩:=f.eK hE
 have cr:=ib hE
 have b9:(nY (bk a)).getD i []=[gi (p:Int),gi B]:=by
  simp[Zi,m]
 have cu:B<=1000:=by
  obtain⟨e,h1,h2⟩:=hE
  have:=f.ok.sym _ (Cj h1).2 e h1
  omega
 have U:aJ a:=by unfold aJ;omega
 have bs:∀ s∈a,aJ s.aK/\∀ e∈s.aK,cp e.sym/\cp e.to:=λs hs=>⟨by have:=f.ok.aK s hs;unfold aJ;omega,λe he=>by
  have h1:=f.ok.sym s hs e he
  have h2:=f.ok.to s hs e he
  unfold cp;omega⟩
 simp(disch:=omega)only[↓wr,seval,wq,t0,t19,t20,t21,ar,hw,b9]
 refine⟨by omega,by omega,λq1 bx=>?_⟩
 rw[set_set]
 have X:=R.fresh bx (o:=.arr 2 [[gi (p:Int),gi B]])
 have j:(H'.set q1 (.arr 2 [[gi (p:Int),gi B]])) q1=.arr 2 [[gi (p:Int),gi B]]:=by simp[View.set]
 generalize H'.set q1 (.arr 2 [[gi (p:Int),gi B]])=H1 at X j ⊢
 refine ax.dJ ((IU (X.at d).1 U bs p (-1 - B)).mono ?_)
 rintro r H3 ⟨rfl,bb⟩
 have G:=X.stay bb
 have b0:H3 q1=.arr 2 [[gi (p:Int),gi B]]:=by rw[bb q1 (by rw[j];simp)];exact j
 clear R X j bb bx hW hw hs he n1 n2 n3
 clear H1 H'
 obtain⟨hW,⟨w2,b1,hw⟩,hs,he,n1,n2,n3⟩:=G.at d
 clear b1
 have ca:=G.sl
 have b2:=pz (l:=Sl) (i:=i) (by omega)
 rw[b8]
 simp only[Nat.lt_irrefl,if_false] at F
 have cc:sF Sl i=0:=F.1
 simp(disch:=omega)only[↓wr,seval,wq,t0,t19,t20,t21,b0]
 apply ah.eq<;>intro bd
 .simp(disch:=omega)only[↓wr,seval,wq,t0,b0,hW]
  apply ah.eq<;>intro bl
  .simp(disch:=omega)only[↓wr,seval,wq,t0,hW,hs,b2]
   refine⟨by omega,by omega,λq5 cf=>?_⟩
   refine ax.wE (He (g.af.length:Int)) (by kernel_rfl) (.val _) ⟨ep.U2 (l:=[(g.af.length:Int)]) (.inr ⟨q5,rfl,by simp[View.set]⟩),trivial⟩ ?_
   have D:=G.fresh cf (o:=.arr 1 [[gi (g.af.length:Int)]])
   generalize H3.set q5 (.arr 1 [[V.val (.int .i64 (g.af.length:Int))]])=H5 at D ⊢
   obtain⟨b3,-,cg,-⟩:=D.at d
   have e1:(bV Sl).set i [gw (sF Sl i ||| dQ (g.af.length:Int))]=bV (Sl.set i (sF Sl i ||| dQ (g.af.length:Int))):=by simp[aaR]
   have I:=D.Bl (Sl':=Sl.set i (sF Sl i ||| dQ (g.af.length:Int))) (by simp[ca])
   have Y:=b3
   have J:a[eK a p (-1 - B)]?=some (a.getD (eK a p (-1 - B)) bg):=getD_some u
   simp(disch:=omega)only[↓wr,seval,wq,cg,b2,e1,vi,b3,n1,t0,ba,Zm,J,Zq,dy]
   refine⟨by omega,by omega,?_⟩
   refine zO f aq ha (by omega) u (qo g ((p:Int),B)) (λy=>if y < i then s8 g a (dC a y) else 0) (λy=>if y < i then ot g a (dC a y) else []) ⟨_,A,I,λz n=>?_⟩ ⟨t0,rfl,rfl,t19,t20,t21,rfl,by show gi ((fc _).length:Int)=_;simp[fc],rfl⟩ (λT' H' hF u0 b c K=>?_)
   .have L:=v z n
    have N:qo g ((p:Int),B)=dQ (g.af.length:Int):=by
     unfold qo
     exact Zn ⟨bd,bl⟩
    rw[eS]
    by_cases e:z=i
    .subst e
     rw[Zn ⟨rfl,by omega⟩]
     simp only[if_true]
     rw[N,cc]
     exact⟨by simp,F.2⟩
    .rw[Zk (λh=>e h.1.symm)]
     simp only[Zk e]
     exact L
   .obtain⟨O,A9,P,Q⟩:=hF
    simp(disch:=omega)only[↓wr,seval,wq,u0,b,c,K]
    refine aE hk (by omega) ⟨O,A9,P,λz n=>?_,u0,b,c,by first | rfl | (congr 2)⟩
    have:=Q z n
    by_cases e:z=i
    .subst e
     simp only[if_true,Nat.lt_succ_self] at this ⊢
     rw[a8]
     simp only[s8,ot,ZK]
     exact this
    .simp only[Zk e,show z < i+1↔z < i by omega] at this ⊢
     exact this
  .have I:=G
   have Y:=hW
   have J:a[eK a p (-1 - B)]?=some (a.getD (eK a p (-1 - B)) bg):=getD_some u
   simp(disch:=omega)only[↓wr,seval,wq,t0,Y,ba,Zm,J,Zq,dy]
   refine zO f aq ha (by omega) u (qo g ((p:Int),B)) (λy=>if y < i then s8 g a (dC a y) else 0) (λy=>if y < i then ot g a (dC a y) else []) ⟨_,A,I,λz n=>?_⟩ ⟨t0,rfl,rfl,t19,t20,t21,rfl,by show gi ((fc _).length:Int)=_;simp[fc],rfl⟩ (λT' H' hF u0 b c K=>?_)
   .have L:=v z n
    have N:qo g ((p:Int),B)=0:=by
     unfold qo
     exact Zk λh=>bl h.2
    by_cases e:z=i
    .subst e
     simp only[if_true]
     rw[N];exact F
    .simp only[Zk e]
     exact L
   .obtain⟨O,A9,P,Q⟩:=hF
    simp(disch:=omega)only[↓wr,seval,wq,u0,b,c,K]
    refine aE hk (by omega) ⟨O,A9,P,λz n=>?_,u0,b,c,by first | rfl | (congr 2)⟩
    have:=Q z n
    by_cases e:z=i
    .subst e
     simp only[if_true,Nat.lt_succ_self] at this ⊢
     rw[a8]
     simp only[s8,ot,ZK]
     exact this
    .simp only[Zk e,show z < i+1↔z < i by omega] at this ⊢
     exact this
 .have I:=G
  have Y:=hW
  have J:a[eK a p (-1 - B)]?=some (a.getD (eK a p (-1 - B)) bg):=getD_some u
  simp(disch:=omega)only[↓wr,seval,wq,t0,Y,ba,Zm,J,Zq,dy]
  refine zO f aq ha (by omega) u (qo g ((p:Int),B)) (λy=>if y < i then s8 g a (dC a y) else 0) (λy=>if y < i then ot g a (dC a y) else []) ⟨_,A,I,λz n=>?_⟩ ⟨t0,rfl,rfl,t19,t20,t21,rfl,by show gi ((fc _).length:Int)=_;simp[fc],rfl⟩ (λT' H' hF u0 b c K=>?_)
  .have L:=v z n
   have N:qo g ((p:Int),B)=0:=by
    unfold qo
    exact Zk λh=>bd h.1
   by_cases e:z=i
   .subst e
    simp only[if_true]
    rw[N];exact F
   .simp only[Zk e]
    exact L
  .obtain⟨O,A9,P,Q⟩:=hF
   simp(disch:=omega)only[↓wr,seval,wq,u0,b,c,K]
   refine aE hk (by omega) ⟨O,A9,P,λz n=>?_,u0,b,c,by first | rfl | (congr 2)⟩
   have:=Q z n
   by_cases e:z=i
   .subst e
    simp only[if_true,Nat.lt_succ_self] at this ⊢
    rw[a8]
    simp only[s8,ot,ZK]
    exact this
   .simp only[Zk e,show z < i+1↔z < i by omega] at this ⊢
    exact this
def sZ:SC :=
 ae [ab [aS 17 .lss 16 15],bT 17 (.exit 0),.block 1 (ae [ab [aa 18 16,aH 19 1 14 16,ai 20 19,aa 8 18,aa 9 20],ae [.region false [⟨none,[aa 21 9,aG 22 .lss 21 0,aa 23 22]⟩,⟨(some (23,true)),[aa 24 0,ao 25 1 5,ai 26 25,aa 27 8,aG 28 .add 27 1,((some 29),.op (.slice 1 (.tmp 26) (some (.tmp 28)) none)),bh 30 121 [24,29]]⟩,⟨none,[eF 31 23 30]⟩],bc 31 (ae [ab [aa 32 0,cQ 33 32,ao 34 6 33,ai 35 34,aa 36 7,aa 37 9,((some 38),.op (.arith .sub (.val (.val (.int .i64 (-1)))) (.tmp 37))),((some 39),.op (.build [(.val (.int .i64 0)),(.val (.int .i64 0))] [(0,1,(.tmp 36)),(1,1,(.tmp 38))])),((some 40),.op (.old (.lookup 110 (.tmp 35) (.tmp 39) false) 3)),aa 10 40],.kU [(43,52)] [⟨none,[aa 41 0,cQ 42 41,ao 43 9 42,ai 44 43,aa 45 10,aa 46 0,cQ 47 46,ao 48 9 47,ai 49 48,aa 50 10,aH 51 1 49 50,ai 52 51,aa 53 0,cQ 54 53,ao 55 6 54,ai 56 55,aT 57 2 4,((some 58),.op (.old (.lookup 110 (.tmp 56) (.tmp 57) false) 3)),((some 59),.op (.bO 1 1 [(.val (.int .i64 0))] [(0,(.tmp 58))])),eE 60 1 8 52 59,aH 61 1 44 45,bK 1 61 60]⟩]])],ab [aa 62 0,aa 63 7,aa 64 9,bh 65 119 [62,63,64],aa 7 65]]),ab [aG 66 .add 16 1,aa 16 66]]
def ux:SF:=⟨ae [ab [cw 4 1,cw 5 2,aQ 6 0],ab [ao 11 0 4,ai 12 11,aa 7 12],ae [ab [ao 13 1 5,ai 14 13,aP 15 14,aQ 16 0],bU 0 sZ],ab [aa 67 7,aa 6 67],.ret],
 [.tmp 6],68⟩
theorem As:aN Tryz.prog 74 [4,5,100000]=some ux:=by kernel_rfl
def pE (g:aj) (a:List aM):Nat->List Int->List Nat
 | _,[]=>[]
 | q,s :: l=>(if s < 0/\c7 l (av g false) false=true then [wT (bk a) ((q:Int),-1 - s)] else []) ++ pE g a (eK a q s) l
def lq (a:List aM):Nat->List Int->Nat
 | q,[]=>q
 | q,s :: l=>lq a (eK a q s) l
def kL (f:Nat->List Nat) (x:Nat) (ys:List Nat):Nat->List Nat:=ys.foldl (λf y=>ki f y (f y ++ [x])) f
theorem Q7 (f:Nat->List Nat) (x:Nat) (ys a:List Nat):kL f x (ys ++ a)=kL (kL f x ys) x a:=by
 unfold kL;rw[Z7]
theorem Hy {x:Nat} : ∀ {ys:List Nat} {f:Nat->List Nat} {y z:Nat},z∈kL f x ys y↔z∈f y∨(z=x/\y∈ys)
 | [],f,y,z=>by simp[kL]
 | w :: ys,f,y,z=>by
  have a:=Hy (x:=x) (ys:=ys) (f:=ki f w (f w ++ [x])) (y:=y) (z:=z)
  unfold kL at a ⊢
  rw[ZS,a]
  by_cases e:y=w
  .subst e
   rw[fo,ZN,aaj]
   simp only[Zz,true_or,and_true]
   constructor
   .rintro ((h | h) | h)
    .exact .inl h
    .exact .inr h
    .exact .inr h.1
   .rintro (h | h)
    .exact .inl (.inl h)
    .exact .inl (.inr h)
  .rw[nO e]
   simp only[Zz,e,false_or]
theorem AR {x c:Nat} : ∀ {ys:List Nat} {f:Nat->List Nat},(∀ z,(f z).length<=c)->∀ z,(kL f x ys z).length<=c+ys.length
 | [],f,h,z=>by simpa [kL] using h z
 | w :: ys,f,h,z=>by
  have a:=AR (x:=x) (c:=c+1) (ys:=ys) (f:=ki f w (f w ++ [x])) (λz=>by
   by_cases e:z=w
   .subst e;rw[fo,aab];have:=h z;simp;omega
   .rw[nO e];have:=h z;omega) z
  unfold kL at a ⊢
  rw[ZS,ZB]
  omega
theorem M8 (g:aj) (a:List aM):∀ (l:List Int) (q:Nat),(pE g a q l).length<=l.length
 | [],_=>by simp[pE]
 | s :: l,q=>by
  have b:=M8 g a l (eK a q s)
  rw[pE,aab,ZB]
  split <;> simp <;> omega
theorem T7 {g:aj} {a:List aM} (D:cL g a) (bq:bI g=true) (ha:a.length<=300) {H:View} {W qn cM:Nat} {M:bW (Int × Int)} {uw:V} {s e:Nat} {Sl:List BV} {A:List (V × List Nat)} {L:List ct} (t:dd g a H W qn cM M uw s e (bk a) Sl A L)
  {fA:Nat->List Nat} {c:Nat} (Z:∀ z,z < (bk a).length->(A.getD z (.any,[])).2=fA z) (br:∀ z,(fA z).length<=c) (hc:c<=100000000) {x p k:Nat} {B:Int} (hx:(bk a)[x]?=some ((p:Int),B)) (hk:k < g.rules.length) (bs:(ay g k).left=B) :
  au Tryz.prog 74 [.ptr W 0 0,.agg [gi p,gi B],.agg (aO (ay g k))] H λr H'=>r=gi (lq a p (ay g k).right)/\(∃ A',dd g a H' W qn cM M uw s e (bk a) Sl A' L/\∀ z,z < (bk a).length->(A'.getD z (.any,[])).2=kL fA x (pE g a p (ay g k).right) z)/\∀ b c es,H b=.map es c->H' b=.map es c:=by
 have an:=rn D
 have cg:(bk a).length<=40 * a.length:=mP D.ok.aK a.length
 obtain⟨bx,hE⟩:=dB.1 (Zp hx)
 have aq:=ib hE
 have b0:=oP D aq bx hk bs hE
 have hR:g.rules[k]?=some (ay g k):=by unfold ay;exact getD_some hk
 have b1:aW g (k:Int)=(ay g k).right:=by rw[aW,Zk (by omega)]
 have ch:=D.dq.right _ (Zp hR)
 have ar:=D.dq.sym _ (Zp hR)
 have b2:=t.num _ _ hx
 generalize ay g k=R at *
 refine au.of mixed As ?_
 simp(disch:=omega)only[↓wr,seval,wq,ux,aO,encI]
 refine aR.up R.right.length (λi T H'=>∃ (q:Nat) (ys:List Nat) (A':List (V × List Nat)),dd g a H' W qn cM M uw s e (bk a) Sl A' L/\(∀ z,z < (bk a).length->(A'.getD z (.any,[])).2=kL fA x ys z)/\(∀ b c es,H b=.map es c->H' b=.map es c) /\
  ys.length<=i/\pE g a p R.right=ys ++ pE g a q (R.right.drop i)/\lq a p R.right=lq a q (R.right.drop i)/\q < a.length/\(⟨k,i⟩:aB)∈kp g a q /\
  T 0=.ptr W 0 0/\T 4=.aI [gi p,gi B] 0/\T 5=.aI (aO R) 0/\T 7=gi q/\T 14=encI R.right/\T 15=gi R.right.length/\T 16=gi i)
  ⟨p,[],A,t,Z,λ_ _ _ h=>h,by simp,by simp,by simp,aq,b0,rfl,rfl,rfl,rfl,rfl,rfl,rfl⟩ ?_
 clear t Z
 rintro i m T H1 hm ⟨q,ys,A1,t,f,w,cj,n,C,b3,b4,t0,t4,t5,t7,t14,t15,t16⟩
 simp(disch:=omega)only[↓wr,seval,wq,sZ,t0,t4,t5,t7,t14,t15,t16]
 apply ah.dec<;>intro b5
 rotate_left
 .simp(disch:=omega)only[↓wr,seval,wq,t7]
  rw[ZQ (by omega)] at n C
  rw[n,C]
  refine⟨rfl,⟨A1,t,?_⟩,w⟩
  simpa [pE] using f
 have hy:R.right[i]?=some (R.right[i]'(by omega)):=Zj (by omega)
 have a1:=Zs (show i < R.right.length by omega)
 have K:R.right.drop i=R.right[i]'(by omega) :: R.right.drop (i+1):=aad (by omega)
 generalize R.right[i]'(by omega)=y at hy a1 K
 obtain⟨n1,n2,n3⟩:=uu (g:=g) (r:=k) (d:=i) (s:=y) (l:=R.right.drop (i+1)) (by rw[b1,K])
 obtain⟨s1,s2,s3,s4⟩:=D.step b3 b4 n1
 obtain⟨_,_,_,_,_,Q⟩:=D.eK s1
 have a6:=rl (ar y a1)
 have hT:=D.dq.af
 have hN:=D.dq.ak
 have cc : -100<=y:=by
  unfold kF at a6
  split at a6 <;> omega
 rw[K,pE] at n
 rw[K,lq] at C
 obtain⟨hW,⟨w2,cf,hw⟩,hs,he,q1,q2,q3⟩:=t.at an
 have j:aJ a:=by unfold aJ;omega
 have E:∀ s∈a,aJ s.aK/\∀ e∈s.aK,cp e.sym/\cp e.to:=λs hs=>⟨by have:=D.ok.aK s hs;unfold aJ;omega,λe he=>by
  have h1:=D.ok.sym s hs e he
  have h2:=D.ok.to s hs e he
  unfold cp;omega⟩
 simp(disch:=omega)only[↓wr,seval,wq,t0,t4,t5,t7,t14,t15,t16,encI,Zm,hy,Zq]
 apply ah.dec<;>intro h0
 .have b7:dE 1 (V.aD (List.map (λ(x:Int)=>[gi x]) R.right)) (some (V.val (.int .i64 ((i:Int)+1)))) none=some (.aD (List.map (λ(x:Int)=>[gi x]) (R.right.drop (i+1))),.none,[]):=by
   have:=y9 (l:=R.right) (k:=i+1) (by omega)
   push_cast at this
   exact this
  simp(disch:=omega)only[↓wr,seval,wq,t0,t5,aO,encI,b7]
  refine ax.dJ ((TW hW (R.right.drop (i+1)) (by unfold aJ;simp;omega) (λz S=>by
   have h1:=rl (ar z (List.mem_of_mem_drop S))
   unfold kF at h1
   rw[fV bq]
   unfold cp
   split at h1 <;> omega)).mono ?_)
  rintro r H5 ⟨rfl,rfl⟩
  cases hb:c7 (R.right.drop (i+1)) (av g false) false with
  | false =>
   simp(disch:=omega)only[↓wr,seval,wq,t0,t7]
   refine ax.dJ ((IU hW j E q y).mono ?_)
   rintro r H6 ⟨rfl,o⟩
   rw[Q]
   simp(disch:=omega)only[↓wr,seval,wq,t0,t4,t5,t7,t14,t15,t16]
   exact aE hm (by omega) ⟨eK a q y,ys,A1,t.stay o,f,λb c es h=>by rw[o b (by rw[w b c es h];simp)];exact w b c es h,by omega,by rw[n,Zk (λh=>by rw[hb] at h;simp at h),aar],C,s4,by push_cast;exact s3,t0,t4,t5,rfl,t14,t15,by first | rfl | (congr 2)⟩
  | true =>
   have U:(bk a)[wT (bk a) ((q:Int),-1 - y)]?=some ((q:Int),-1 - y):=ky (dB.2 ⟨by omega,by rw[show -1 - (-1 - y)=y by omega];exact s1⟩)
   have a7:=t.num _ _ U
   have v:=(Zy.1 U).1
   rw[Zn ⟨h0,hb⟩] at n
   generalize wT (bk a) ((q:Int),-1 - y)=J at U a7 v n
   have a8:dK Tryz.prog 110=some (116,3):=by kernel_rfl
   have S:zeroV Tryz.prog 3=some (gi 0):=by kernel_rfl
   simp(disch:=omega)only[↓wr,seval,wq,t0,t7,hW]
   refine IS (kv:=fu) (kt:=116) (et:=3) (z:=gi 0) (id:=qn) (c:=cM) (m:=M) (k:=((q:Int),-1 - y)) a8 S (Cl yZ) (by first | rfl | simp(disch:=omega)only[↓wr,seval,wq]) (by first | rfl | (simp(disch:=omega)only[↓wr,seval,wq];rfl)) t.mp ?_
   rw[a7,ZC]
   have b8:=t.al
   obtain⟨O,⟨u,l⟩,P,rfl,F,_⟩:=oA (l:=A1) (i:=J) (by omega)
   have G:=t.row rfl
   have bb:(aZ (O ++ (u,l) :: P)).getD J []=[u]:=by rw[<-F];simp[aZ]
   have bd:((O ++ (u,l) :: P).getD J (V.any,([]:List Nat))).2=l:=by rw[<-F];simp
   have b9:(aZ (O ++ (u,l) :: P)).length=(bk a).length:=by rw[aZ,Zr];exact b8
   have ck:l.length<=100000010:=by
    rw[<-bd,f J v]
    have:=AR (x:=x) (ys:=ys) br J
    omega
   simp(disch:=omega)only[↓wr,seval,wq,t0,t4,hW,he,bb]
   refine⟨v,by omega,?_⟩
   refine IS (kv:=fu) (kt:=116) (et:=3) (z:=gi 0) (id:=qn) (c:=cM) (m:=M) (k:=((p:Int),B)) a8 S (Cl yZ) (by first | rfl | simp(disch:=omega)only[↓wr,seval,wq]) (by first | rfl | (simp(disch:=omega)only[↓wr,seval,wq];rfl)) t.mp ?_
   rw[b2,ZC]
   simp(disch:=omega)only[↓wr,seval,wq]
   intro q8 N
   simp(disch:=omega)only[↓wr,seval,wq,bm]
   refine bL (G.fresh N) (by simp[aL]) (by unfold aA;simp;omega) (by unfold aA;simp;omega) ?_
   intro u2 H8 o8 l8
   have X:=o8.is 1 rfl (by rw[b9];omega)
   have bl:∀ b c es,H5 b=.map es c->H8 b=.map es c:=λb c es h=>l8.map (G.fresh N).head (b:=b) (c:=c) (es:=es) (by
    simp only[View.set];rw[Zk (λe=>by rw[<-e,h] at N;simp at N)];exact h)
   have ca:(aZ (O ++ (u,l) :: P)).set J [u2]=aZ (O ++ (u2,l ++ [x]) :: P):=by rw[<-F];simp[aZ]
   have Y:=t.Xb rfl (l':=l ++ [x]) (es:=ga l ++ [[gi (x:Int)]]) (by simp) o8 (bl _ _ _ t.mp)
   have I:∀ b c es,H b=.map es c->(H8.set e (.arr 1 (aZ (O ++ (u2,l ++ [x]) :: P)))) b=.map es c:=λb c es h=>by
    have h8:=bl b c es (w b c es h)
    simp only[View.set];rw[Zk (λe=>by rw[<-e,h8] at X;simp at X)];exact h8
   simp(disch:=omega)only[↓wr,seval,wq,t0,t4,t5,t7,t14,t15,t16,X,bb,o8.head.cells,o8.head.fj,ca]
   refine⟨v,by omega,?_,?_⟩
   .rcases G.head with ⟨_,kk,h⟩ | ⟨m,h,bn⟩
    .rw[show u=.emp kk from h,yx];trivial
    .rw[show u=.sl m 0 _ 1 from h,B8]
     intro e
     rw[<-e,hW] at bn;simp at bn
   .generalize H8.set e (.arr 1 (aZ (O ++ (u2,l ++ [x]) :: P)))=H9 at Y I ⊢
    refine ax.dJ ((IU (Y.at an).1 j E q y).mono ?_)
    rintro r H6 ⟨rfl,o⟩
    rw[Q]
    simp(disch:=omega)only[↓wr,seval,wq,t0,t4,t5,t7,t14,t15,t16]
    refine aE hm (by omega) ⟨eK a q y,ys ++ [J],O ++ (u2,l ++ [x]) :: P,Y.stay o,λz S=>?_,λb c es h=>by rw[o b (by rw[I b c es h];simp)];exact I b c es h,by rw[aab];simp;omega,by rw[n,Z2],C,s4,by push_cast;exact s3,t0,t4,t5,rfl,t14,t15,by first | rfl | (congr 2)⟩
    rw[Q7]
    show _=ki (kL fA x ys) J (kL fA x ys J ++ [x]) z
    by_cases e:z=J
    .subst e
     rw[fo,<-f z S,bd,<-F]
     simp
    .rw[nO e,C2 (y:=(u,l)) (by rw[F];exact e)]
     exact f z S
 .simp(disch:=omega)only[↓wr,seval,wq,t0,t7]
  refine ax.dJ ((IU hW j E q y).mono ?_)
  rintro r H6 ⟨rfl,o⟩
  rw[Q]
  simp(disch:=omega)only[↓wr,seval,wq,t0,t4,t5,t7,t14,t15,t16]
  exact aE hm (by omega) ⟨eK a q y,ys,A1,t.stay o,f,λb c es h=>by rw[o b (by rw[w b c es h];simp)];exact w b c es h,by omega,by rw[n,Zk (λh=>h0 h.1),aar],C,s4,by push_cast;exact s3,t0,t4,t5,rfl,t14,t15,by first | rfl | (congr 2)⟩
end Gv

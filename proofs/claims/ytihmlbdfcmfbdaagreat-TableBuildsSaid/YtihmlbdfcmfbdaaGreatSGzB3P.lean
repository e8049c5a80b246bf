/-
  Part 16 of the proof: what the machine does and what the functions answer.
  Conditions: those that each lemma names.
-/
import Derived.Test.YtihmlbdfcmfbdaaGreatSGzB3O
set_option linter.unusedSimpArgs false
set_option linter.unusedVariables false
set_option maxRecDepth 100000
set_option maxHeartbeats 20000000
namespace Gv
open Go Go.Proofs
def oU:SC :=
 ae [ab [aS 30 .lss 29 28],bT 30 (.exit 0),.block 1 (ae [ab [aH 31 1 27 29,ai 32 31,aa 8 32],ae [ab [ai 33 2,aa 34 8,aH 35 1 33 34,ai 36 35,aG 37 .eql 36 0],bc 37 (ab [ai 38 4,aa 39 8,((some 40),.call (.tmp 38) [(.tmp 39)])])],ab [ai 41 2,aa 42 0,ai 43 2,aa 44 0,aH 45 1 43 44,ai 46 45,ai 47 2,aa 48 8,aH 49 1 47 48,ai 50 49,((some 51),.op (.mm false (.tmp 46) (.tmp 50))),aH 52 1 41 42,bK 1 52 51],ab [ai 53 3,cQ 54 53,ao 55 8 54,ai 56 55,aa 57 0,aH 58 1 56 57,ai 59 58,ai 60 3,cQ 61 60,ao 62 8 61,ai 63 62,aa 64 8,aH 65 1 63 64,ai 66 65,aS 67 .or 59 66,aH 68 1 56 57,bK 1 68 67]]),ab [aG 69 .add 29 1,aa 29 69]]
def pn:SC :=
 ae [ab [aS 82 .lss 81 80],bT 82 (.exit 2),.block 3 (ae [ab [aH 83 1 79 81,ai 84 83,aa 10 84],ab [ai 85 2,aa 86 10,aH 87 1 85 86,(none,.op (.store 1 (.tmp 87) (.val (.val (.int .i64 1073741824)))))],ab [ai 88 3,cQ 89 88,ao 90 8 89,ai 91 90,aa 92 10,ai 93 3,cQ 94 93,ao 95 8 94,ai 96 95,aa 97 0,aH 98 1 96 97,ai 99 98,aH 100 1 91 92,bK 1 100 99]]),ab [aG 101 .add 81 1,aa 81 101]]
def qT:SF:=⟨ae [ab [ai 11 1,aa 12 0,((some 13),.op (.bO 1 1 [(.val (.int .i64 0))] [(0,(.tmp 12))])),eE 14 1 8 11 13,bK 1 1 14],ab [ai 15 1,aP 16 15,aa 6 16],ab [ai 17 2,aa 18 0,aa 19 6,aH 20 1 17 18,bK 1 20 19],ae [ab [ai 21 3,cQ 22 21,ao 23 9 22,ai 24 23,aa 25 0,aH 26 1 24 25,ai 27 26,aP 28 27,aQ 29 0],bU 0 oU],ae [ab [ai 70 2,aa 71 0,aH 72 1 70 71,ai 73 72,aa 74 6,aS 75 .neq 73 74],bc 75 (.ret)],ae [ab [ai 76 1,aa 77 6,aG 78 .sub 77 1,((some 79),.op (.slice 1 (.tmp 76) (some (.tmp 78)) none)),aP 80 79,aQ 81 0],bU 2 pn],ab [ai 102 1,aa 103 6,aG 104 .sub 103 1,((some 105),.op (.slice 1 (.tmp 102) none (some (.tmp 104)))),bK 1 1 105]],
 [],106⟩
theorem wO:aN Tryz.prog 122 []=some qT:=by kernel_rfl
def qS:SC :=
 ae [ab [aS 19 .lss 18 17],bT 19 (.exit 0),.block 1 (ae [ab [aa 20 18,aa 5 20],ab [ai 21 2,aa 22 5,aH 23 1 21 22,ai 24 23,aG 25 .eql 24 0],bc 25 (ab [ai 26 4,aa 27 5,((some 28),.call (.tmp 26) [(.tmp 27)])])]),ab [aG 29 .add 18 1,aa 18 29]]
def tq:SF:=⟨ae [ab [cw 1 0],ab [ai 6 1,cQ 7 6,ao 8 7 7,ai 9 8,aP 10 9,((some 11),.op (.make 1 8 [(.val (.int .i64 0))] (.tmp 10) (.tmp 10))),((some 2),.op (.alloc [(.emp 1)])),bK 1 2 11],ab [((some 3),.op (.alloc [(.emp 1)]))],ab [((some 4),.op (.alloc [(.val .nilFunc)]))],ab [((some 12),.op (.uS 122 [] [(.tmp 3),(.tmp 2),(.tmp 1),(.tmp 4)])),bK 1 4 12],ab [ai 13 1,cQ 14 13,ao 15 7 14,ai 16 15,aP 17 16,aQ 18 0],bU 0 qS],
 [],30⟩
theorem yM:aN Tryz.prog 75 [1]=some tq:=by kernel_rfl
abbrev ga (l:List Nat):List (List V):=l.map λ(z:Nat)=>[gi (z:Int)]
structure DZ where
 (qs qd qv W d s e:Nat)
 (f0 f1 f2 f3 f4 f5 f6 f7:V)
 us:List V
 H0:View
def DZ.fn (c:DZ):V:=.fn 122 [] [.ptr c.qs 0 0,.ptr c.qd 0 0,.aI [.ptr c.W 0 0] 0,.ptr c.qv 0 0]
structure D7 (c:DZ) (n:Nat) (E:Nat->List Nat):Prop where
 lu:c.H0 c.qd=.arr 1 [[.sl c.d 0 n 1]]
 zU:c.H0 c.qv=.arr 1 [[c.fn]]
 hW:c.H0 c.W=.arr 10 [[c.f0,c.f1,c.f2,c.f3,c.f4,c.f5,c.f6,c.f7,.sl c.s 0 n 1,.sl c.e 0 n 1]]
 he:c.H0 c.e=.arr 1 (c.us.map λu=>[u])
 hl:c.us.length=n
 hu:∀ x,x < n->aV c.H0 (c.us.getD x .any) 1 (ga (E x))
 hE:∀ x,x < n->(E x).length<=1000000000/\∀ y∈E x,y < n
 live:c.H0 c.qs≠.dead/\c.H0 c.d≠.dead/\c.H0 c.s≠.dead
 ne:c.qs≠c.d/\c.qs≠c.s/\c.d≠c.s
 zJ:∀ id,(id=c.qd∨id=c.qv∨id=c.W∨id=c.e∨∃ x,x < n/\owner (c.us.getD x .any)=some id)->id≠c.qs/\id≠c.d/\id≠c.s
structure nh (c:DZ) (n:Nat) (H:View) (Dl:List Int) (St:List Nat) (Sl:List BV) (u:V):Prop where
 dl:Dl.length=n
 sl:Sl.length=n
 hd:H c.d=.arr 1 (bF Dl)
 hs:H c.s=.arr 1 (bV Sl)
 hq:H c.qs=.arr 1 [[u]]
 own:aV H u 1 (ga St)
 new:∀ id,owner u=some id->c.H0 id=.dead
 keep:∀ id,c.H0 id≠.dead->id≠c.qs->id≠c.d->id≠c.s->H id=c.H0 id
def dF (l:List Int):Nat->Int:=λz=>l.getD z 0
def sF (l:List BV):Nat->BV:=λz=>l.getD z 0
theorem El {l:List Int} {x:Nat} {v:Int} (h:x < l.length):dF (l.set x v)=ki (dF l) x v:=by
 funext z
 simp only[dF,ki,eS]
 by_cases e:x=z
 .subst e;simp[h]
 .rw[Zk (λh=>e h.1),Zk (λh=>e h.symm)]
theorem KP {l:List BV} {x:Nat} {v:BV} (h:x < l.length):sF (l.set x v)=ki (sF l) x v:=by
 funext z
 simp only[sF,ki,eS]
 by_cases e:x=z
 .subst e;simp[h]
 .rw[Zk (λh=>e h.1),Zk (λh=>e h.symm)]
section
variable {c:DZ} {n:Nat} {E:Nat->List Nat} {H:View} {Dl:List Int} {St:List Nat} {Sl:List BV} {u:V}
theorem nh.N2 (h:nh c n H Dl St Sl u) (a:D7 c n E) {Dl':List Int} (hl:Dl'.length=n):nh c n (H.set c.d (.arr 1 (bF Dl'))) Dl' St Sl u:=by
 obtain⟨g,o,i⟩:=a.ne
 refine⟨hl,h.sl,by simp[View.set],?_,?_,?_,h.new,λid h1 j b l=>?_⟩
 .simp only[View.set];rw[Zk (Ne.symm i)];exact h.hs
 .simp only[View.set];rw[Zk g];exact h.hq
 .rcases h.own with k | ⟨m,f,k2⟩
  .exact .inl k
  .refine .inr ⟨m,f,?_⟩
   simp only[View.set]
   rw[Zk (λe=>a.live.2.1 (by rw[<-e];exact h.new m (by rw[f];rfl)))];exact k2
 .simp only[View.set];rw[Zk b];exact h.keep id h1 j b l
theorem nh.Bl (h:nh c n H Dl St Sl u) (a:D7 c n E) {Sl':List BV} (hl:Sl'.length=n):nh c n (H.set c.s (.arr 1 (bV Sl'))) Dl St Sl' u:=by
 obtain⟨l,f,g⟩:=a.ne
 refine⟨h.dl,hl,?_,by simp[View.set],?_,?_,h.new,λid h1 i j b=>?_⟩
 .simp only[View.set];rw[Zk g];exact h.hd
 .simp only[View.set];rw[Zk f];exact h.hq
 .rcases h.own with k | ⟨m,d,k2⟩
  .exact .inl k
  .refine .inr ⟨m,d,?_⟩
   simp only[View.set]
   rw[Zk (λe=>a.live.2.2 (by rw[<-e];exact h.new m (by rw[d];rfl)))];exact k2
 .simp only[View.set];rw[Zk b];exact h.keep id h1 i j b
theorem nh.live (h:nh c n H Dl St Sl u) {id:Nat} (a:c.H0 id≠.dead):H id≠.dead:=by
 by_cases b:id=c.qs
 .rw[b,h.hq];simp
 .by_cases e:id=c.d
  .rw[e,h.hd];simp
  .by_cases f:id=c.s
   .rw[f,h.hs];simp
   .rw[h.keep id a b e f];exact a
theorem nh.push (h:nh c n H Dl St Sl u) (d:D7 c n E) {q x:Nat} (hq:H q=.dead) {o:cU} {b:V} {f:View} (p:aV f b 1 (ga St ++ [[gi (x:Int)]])) (r:Left (H.set q o) f u b):nh c n (f.set c.qs (.arr 1 [[b]])) Dl (St ++ [x]) Sl b:=by
 obtain⟨s,t,y⟩:=d.ne
 have a:∀ id,c.H0 id≠.dead->f id=H id/\owner b≠some id:=λid j=>by
  have h1:=h.live j
  have i:id≠q:=λe=>h1 (by rw[e];exact hq)
  have hs:(H.set q o) id=H id:=by simp only[View.set];rw[Zk i]
  have:=r id (by rw[hs];exact h1) (λe=>j (h.new id e))
  rw[hs] at this;exact this
 refine⟨h.dl,h.sl,?_,?_,by simp[View.set],?_,λid h1=>?_,λid h1 g v w=>?_⟩
 .simp only[View.set];rw[Zk (Ne.symm s),(a _ d.live.2.1).1];exact h.hd
 .simp only[View.set];rw[Zk (Ne.symm t),(a _ d.live.2.2).1];exact h.hs
 .have e:ga (St ++ [x])=ga St ++ [[gi (x:Int)]]:=by simp
  rw[e]
  rcases p with k | ⟨m,l,k2⟩
  .exact .inl k
  .refine .inr ⟨m,l,?_⟩
   simp only[View.set]
   rw[Zk (λe=>(a _ d.live.1).2 (by rw[l,<-e];rfl))];exact k2
 .exact aaB λg=>(a id g).2 h1
 .simp only[View.set];rw[Zk g,(a id h1).1];exact h.keep id h1 g v w
theorem nh.at (h:nh c n H Dl St Sl u) (a:D7 c n E):H c.qd=.arr 1 [[.sl c.d 0 n 1]]/\H c.qv=.arr 1 [[c.fn]]/\H c.W=.arr 10 [[c.f0,c.f1,c.f2,c.f3,c.f4,c.f5,c.f6,c.f7,.sl c.s 0 n 1,.sl c.e 0 n 1]]/\H c.e=.arr 1 (c.us.map λu=>[u]):=by
 have k:∀ id,(id=c.qd∨id=c.qv∨id=c.W∨id=c.e∨∃ x,x < n/\owner (c.us.getD x .any)=some id)->c.H0 id≠.dead->H id=c.H0 id:=λid h1 b=>h.keep id b (a.zJ id h1).1 (a.zJ id h1).2.1 (a.zJ id h1).2.2
 refine⟨?_,?_,?_,?_⟩
 .rw[k c.qd (by simp) (by rw[a.lu];simp),a.lu]
 .rw[k c.qv (by simp) (by rw[a.zU];simp),a.zU]
 .rw[k c.W (by simp) (by rw[a.hW];simp),a.hW]
 .rw[k c.e (by simp) (by rw[a.he];simp),a.he]
theorem D7.YX (a:D7 c n E):(c.qd≠c.qs/\c.qd≠c.d/\c.qd≠c.s)/\(c.qv≠c.qs/\c.qv≠c.d/\c.qv≠c.s)/\(c.W≠c.qs/\c.W≠c.d/\c.W≠c.s)/\(c.e≠c.qs/\c.e≠c.d/\c.e≠c.s)/\(c.d≠c.qs/\c.s≠c.qs/\c.d≠c.s/\c.s≠c.d) :=
 ⟨a.zJ _ (by simp),a.zJ _ (by simp),a.zJ _ (by simp),a.zJ _ (by simp),Ne.symm a.ne.1,Ne.symm a.ne.2.1,a.ne.2.2,Ne.symm a.ne.2.2⟩
theorem nh.row (h:nh c n H Dl St Sl u) (b:D7 c n E) {x:Nat} (d:x < n):aV H (c.us.getD x .any) 1 (ga (E x)):=by
 rcases b.hu x d with k | ⟨m,e,k2⟩
 .exact .inl k
 .refine .inr ⟨m,e,?_⟩
  have a:=b.zJ m (.inr (.inr (.inr (.inr ⟨x,d,by rw[e];rfl⟩))))
  rw[h.keep m (by rw[k2];simp) a.1 a.2.1 a.2.2];exact k2
end
theorem DE {l:List Nat} {i y:Nat} (h:l[i]?=some y):(ga l).getD i []=[gi (y:Int)]:=by
 simp[Zi,h]
theorem RN (a b:Int):(if b < a then b else a)=min a b:=by split <;> omega
theorem p8 {l:List Int} {i:Nat} (h:i < l.length):(bF l).getD i []=[gi (dF l i)]:=by
 simp[dF,Zi,h]
theorem pz {l:List BV} {i:Nat} (h:i < l.length):(bV l).getD i []=[gw (sF l i)]:=by
 simp[sF,Zi,h]
theorem Xw {l:List V} {i:Nat} (h:i < l.length):(l.map λu=>[u]).getD i []=[l.getD i .any]:=by
 simp[Zi,h]
theorem J2 {id off k m:Nat} (hm:m<=k):dE 1 (.sl id off k 1) (some (gi m)) none=some (.sl id (off+m) (k - m) 1,.none,[]):=by
 simp[dE,bound,asNat,hm]
theorem Kd {id off k m:Nat} (hm:m<=k):dE 1 (.sl id off k 1) none (some (gi m))=some (.sl id off m 1,.none,[]):=by
 simp[dE,bound,asNat,hm]
def IP (n:Nat) (D:Nat->Int):Nat:=((List.range n).filter λz=>decide (D z=0)).length
theorem filter_le {α:Type} {p q:α->Bool} : ∀ {l:List α},(∀ x∈l,p x=true->q x=true)->(l.filter p).length<=(l.filter q).length
 | [],_=>Zt _
 | a :: l,h=>by
  have b:=filter_le (p:=p) (q:=q) (l:=l) λx c=>h x (by simp[c])
  have d:=h a (by simp)
  rw[abg,abg]
  cases hp:p a with
  | true=>rw[d hp];simp;exact b
  | false =>
   cases hq:q a with
   | true=>simp;omega
   | false=>simpa using b
theorem filter_lt {α:Type} {p q:α->Bool} : ∀ {l:List α},(∀ x∈l,p x=true->q x=true)->(∃ x∈l,p x=false/\q x=true)->(l.filter p).length < (l.filter q).length
 | [],_,⟨x,h,_⟩=>by simp at h
 | a :: l,h,⟨x,b,d,k2⟩=>by
  have f:=h a (by simp)
  rw[abg,abg]
  rcases Zz.1 b with rfl | b
  .have:=filter_le (p:=p) (q:=q) (l:=l) λy c=>h y (by simp[c])
   rw[d,k2];simp;omega
  .have e:=filter_lt (p:=p) (q:=q) (l:=l) (λy c=>h y (by simp[c])) ⟨x,b,d,k2⟩
   cases hp:p a with
   | true=>rw[f hp];simp;exact e
   | false =>
    cases hq:q a with
    | true=>simp;omega
    | false=>simpa using e
theorem JX {n:Nat} {D D':Nat->Int} (h:∀ z,D z≠0->D' z≠0) {x:Nat} (b:x < n) (c:D x=0) (h1:D' x≠0):IP n D' < IP n D :=
 filter_lt (λz _ a=>by
  simp only[ZA] at a ⊢
  exact aay λk=>h z k a) ⟨x,aap.2 b,by simp[h1],by simp[c]⟩
theorem UJ {c:DZ} {n:Nat} {E:Nat->List Nat} (f:D7 c n E) (hn:n<=100000) (S0:Nat->BV):∀ (m:Nat) (H:View) (Dl:List Int) (St:List Nat) (Sl:List BV) (x:Nat),IP n (dF Dl)<=m->(∃ u,nh c n H Dl St Sl u)->pW n E S0 (dF Dl) St (sF Sl)->x < n->dF Dl x=0 ->
  au Tryz.prog 122 [gi x,.ptr c.qs 0 0,.ptr c.qd 0 0,.aI [.ptr c.W 0 0] 0,.ptr c.qv 0 0] H λ_ H'=>∃ (Dl':List Int) (L:List Nat) (Sl':List BV),(∃ u,nh c n H' Dl' L Sl' u)/\Bt n E S0 (dF Dl) St (sF Sl) x (dF Dl') L (sF Sl'):=by
 intro m
 induction m with
 | zero =>
  intro H Dl St Sl x hm _ _ o h0
  have:=JX (n:=n) (D:=dF Dl) (D':=λ_=>1) (λ_ _=>by simp) o h0 (by simp)
  omega
 | succ m ih =>
 rintro H Dl St Sl x hm ⟨u,hJ⟩ hG o h0
 have Q:∀ x,x < n->∀ y∈E x,y < n:=λx o=>(f.hE x o).2
 have M:(n:Int) < fy:=by unfold fy;omega
 have a6:=iw.start M hG o h0
 have bd:=Fh a6.g.nd a6.g.lt
 simp only[aab,ZB,ZW] at bd
 refine au.cut (K:=λ_ H'=>(∃ (Dl':List Int) (L:List Nat) (Sl':List BV),(∃ u,nh c n H' Dl' L Sl' u)/\Bt n E S0 (dF Dl) St (sF Sl) x (dF Dl') L (sF Sl'))∨∃ (Dl':List Int) (Sl':List BV) (st:Nat) (rest:List (List V)),Dl'.length=n/\Sl'.length=n/\H' c.d=.arr 1 (bF Dl')/\H' c.s=.arr 1 (bV Sl') /\
  H' c.qs=.arr 1 [[.sl st 0 St.length 1]]/\H' st=.arr 1 (ga St ++ rest)/\c.H0 st=.dead/\(∀ id,c.H0 id≠.dead->id≠c.qs->id≠c.d->id≠c.s->H' id=c.H0 id)/\Bt n E S0 (dF Dl) St (sF Sl) x (dF Dl') St (sF Sl')) ?_ ?_
 rotate_left
 .rintro r H' (h | ⟨Dl',Sl',st,rest,R,k2,k3,k4,k5,k6,k7,k8,k9⟩)
  .exact .inl h
  .have B:∀ id,c.H0 id≠.dead->id≠st:=λid h e=>h (by rw[e];exact k7)
   refine .inr ⟨st,1,ga St,rest,k6,Dl',St,Sl',⟨.sl st 0 St.length 1,R,k2,?_,?_,?_,.inr ⟨st,by simp,by simp[View.set]⟩,λid h=>?_,λid h1 h2 h3 h4=>?_⟩,k9⟩
   .simp only[View.set];rw[Zk (B _ f.live.2.1)];exact k3
   .simp only[View.set];rw[Zk (B _ f.live.2.2)];exact k4
   .simp only[View.set];rw[Zk (B _ f.live.1)];exact k5
   .simp only[owner,Zl] at h;rw[<-h];exact k7
   .simp only[View.set];rw[Zk (B _ h1)];exact k8 id h1 h2 h3 h4
 refine au.of mixed wO ?_
 obtain⟨N,a2,a3,a4⟩:=hJ.at f
 have hq:=hJ.hq
 have ca:cT u=some St.length:=by rw[hJ.own.len,Zr]
 simp(disch:=omega)only[↓wr,seval,wq,qT,hq]
 intro q lu
 simp(disch:=omega)only[↓wr,seval,wq,bm]
 refine gh (hJ.own.fresh lu) (by simp[aL]) (by unfold aA;simp;omega) (by unfold aA;simp;omega) ?_
 intro u2 H2 o2 l2
 have hlen:(ga St ++ [[gi (x:Int)]]).length=St.length+1:=by simp
 obtain⟨st,bl,_⟩:=o2.sl (by rw[hlen];omega)
 rw[hlen] at bl
 subst bl
 have O:=hJ.push f lu o2 l2
 have bn:H2 c.qs=.arr 1 [[u]]:=by
  have B:c.qs≠q:=λe=>hJ.live f.live.1 (by rw[e];exact lu)
  have hs:(H.set q (.arr 1 [[gi (x:Int)]])) c.qs=H c.qs:=by simp only[View.set];rw[Zk B]
  have:=(l2 c.qs (by rw[hs,hq];simp) (λe=>f.live.1 (hJ.new _ e))).1
  rw[this,hs,hq]
 obtain⟨⟨m1,m2,m3⟩,⟨m4,m5,m6⟩,⟨m7,m8,m9⟩,⟨m10,m11,m12⟩,m13,m14,m15,m16⟩:=f.YX
 obtain⟨b1,b2,b3,b4⟩:=O.at f
 have b5:=O.hd
 simp only[View.set,Zk m1] at b1
 simp only[View.set,Zk m7] at b3
 simp only[View.set,Zk m10] at b4
 simp only[View.set,Zk m13] at b5
 have cc:=O.dl
 have bq:(bF Dl).set x [gi ((St.length:Int)+1)]=bF (Dl.set x ((St.length:Int)+1)):=ints_set _ _ _
 have a7:(bF Dl).set x [gi ((St.length+1:Nat):Int)]=bF (Dl.set x ((St.length:Int)+1)):=ints_set _ _ _
 have hex:=Xw (l:=c.us) (i:=x) (by rw[f.hl];exact o)
 have cf:cT (c.us.getD x .any)=some (E x).length:=by rw[(f.hu x o).len,Zr]
 have cS:=f.hl
 simp(disch:=omega)only[↓wr,seval,wq,bn,b1,b3,b4,b5,m1,m2,m7,m8,m10,m11,m13,bq,a7,p8 (l:=Dl) (i:=x) (by omega),hex,cf]
 refine⟨o,by omega,o,by omega,?_⟩
 refine aR.up (E x).length (λi T H'=>∃ (Dl':List Int) (b:List Nat) (Sl':List BV) (st:Nat),nh c n H' Dl' (St ++ x :: b) Sl' (.sl st 0 (St ++ x :: b).length 1)/\iw n E S0 (dF Dl) St (sF Sl) x ((E x).take i) (dF Dl') b (sF Sl')/\T 0=gi x/\T 1=.ptr c.qs 0 0/\T 2=.ptr c.qd 0 0/\T 3=.aI [.ptr c.W 0 0] 0/\T 4=.ptr c.qv 0 0/\T 6=gi ((St.length+1:Nat):Int)/\T 27=c.us.getD x .any/\T 28=gi (E x).length/\T 29=gi i)
  ⟨Dl.set x ((St.length:Int)+1),[],Sl,st,by simpa using O.N2 f (Dl':=Dl.set x ((St.length:Int)+1)) (by simp[cc]),by rw[El (by omega)];exact a6,rfl,rfl,rfl,rfl,rfl,rfl,rfl,rfl,rfl⟩ ?_
 clear b1 b2 b3 b4 b5 O bn lu l2 o2 ca hq N a2 a3 a4
 rintro i k T H' hk ⟨Dl',b,Sl',st,a,J,t0,t1,t2,t3,t4,t6,t27,t28,t29⟩
 have c9:=(f.hE x o).1
 have cV:=a.dl
 have c3:=a.sl
 obtain⟨N,a2,a3,a4⟩:=a.at f
 simp(disch:=omega)only[↓wr,seval,wq,oU,t0,t1,t2,t3,t4,t6,t27,t28,t29]
 apply ah.dec<;>intro hc
 .have hy:(E x)[i]?=some ((E x)[i]'(by omega)):=Zj (by omega)
  have S:=Zs (show i < (E x).length by omega)
  have G:(E x).take (i+1)=(E x).take i ++ [(E x)[i]'(by omega)]:=by rw[ZG,hy];rfl
  generalize (E x)[i]'(by omega)=y at hy S G
  have cg:=DE hy
  have A:=Q x o y S
  obtain⟨id,hu,ch⟩:=(a.row f o).sl (by simp;omega)
  rw[Zr] at hu
  simp(disch:=omega)only[↓wr,seval,wq,t0,t1,t2,t3,t4,t6,t27,t28,t29,hu,ch,cg,N,a.hd,p8 (l:=Dl') (i:=y) (by omega)]
  refine⟨by omega,by first | omega | (simp;omega),A,by omega,?_⟩
  apply ah.eq<;>intro hz
  .have da:=JX (n:=n) (D:=dF Dl) (D':=dF Dl') (λz hz=>by rw[(J.old z hz).1];exact hz) o h0 (by have:=J.own.1;omega)
   simp(disch:=omega)only[↓wr,seval,wq,t4,t6,a2,DZ.fn]
   refine ax.dJ ((ih H' Dl' (St ++ x :: b) Sl' y (by omega) ⟨_,a⟩ J.g A hz).mono ?_)
   rintro r H5 ⟨p,db,t,⟨u5,C⟩,hV⟩
   obtain⟨T5,rfl,a8⟩:=J.Dq Q M o h0 S hz hV
   obtain⟨cj,br,_⟩:=C.own.sl (by simp;omega)
   rw[Zr] at br
   subst br
   obtain⟨N,a2,a3,a4⟩:=C.at f
   have bs:=C.dl
   have bx:=C.sl
   have e1:(bF p).set x [gi (min (dF p x) (dF p y))]=bF (p.set x (min (dF p x) (dF p y))):=ints_set _ _ _
   have e2:(bV t).set x [gw (sF t x ||| sF t y)]=bV (t.set x (sF t x ||| sF t y)):=by simp[aaR]
   simp(disch:=omega)only[↓wr,seval,wq,t0,t1,t2,t3,t4,t6,t27,t28,t29,N,a3,C.hd,C.hs,p8 (l:=p) (i:=x) (by omega),p8 (l:=p) (i:=y) (by omega),pz (l:=t) (i:=x) (by omega),pz (l:=t) (i:=y) (by omega),RN,e1,e2,m1,m2,m3,m7,m8,m9,m13,m14,m15,m16,vi]
   refine⟨o,by omega,A,by omega,o,by omega,o,by omega,A,by omega,o,by omega,?_⟩
   exact aE hk (by omega) ⟨p.set x (min (dF p x) (dF p y)),T5,t.set x (sF t x ||| sF t y),cj,(C.N2 f (by simp[bs])).Bl f (by simp[bx]),by rw[G,El (by omega),KP (by omega)];exact a8,t0,t1,t2,t3,t4,t6,by first | exact t27 | (rw[hu];exact t27),t28,rfl⟩
  .have a8:=J.TR Q M o h0 S hz
   obtain⟨N,a2,a3,a4⟩:=a.at f
   have b0:=a.dl
   have b7:=a.sl
   have e1:(bF Dl').set x [gi (min (dF Dl' x) (dF Dl' y))]=bF (Dl'.set x (min (dF Dl' x) (dF Dl' y))):=ints_set _ _ _
   have e2:(bV Sl').set x [gw (sF Sl' x ||| sF Sl' y)]=bV (Sl'.set x (sF Sl' x ||| sF Sl' y)):=by simp[aaR]
   simp(disch:=omega)only[↓wr,seval,wq,t0,t1,t2,t3,t4,t6,t27,t28,t29,N,a3,a.hd,a.hs,p8 (l:=Dl') (i:=x) (by omega),p8 (l:=Dl') (i:=y) (by omega),pz (l:=Sl') (i:=x) (by omega),pz (l:=Sl') (i:=y) (by omega),RN,e1,e2,m1,m2,m3,m7,m8,m9,m13,m14,m15,m16,vi]
   refine⟨o,by omega,A,by omega,o,by omega,o,by omega,A,by omega,o,by omega,?_⟩
   exact aE hk (by omega) ⟨Dl'.set x (min (dF Dl' x) (dF Dl' y)),b,Sl'.set x (sF Sl' x ||| sF Sl' y),st,(a.N2 f (by simp[b0])).Bl f (by simp[b7]),by rw[G,El (by omega),KP (by omega)];exact a8,t0,t1,t2,t3,t4,t6,by first | exact t27 | (rw[hu];exact t27),t28,rfl⟩
 .rw[Zx (by omega)] at J
  simp(disch:=omega)only[↓wr,seval,wq,t0,t1,t2,t6,N,a.hd,p8 (l:=Dl') (i:=x) (by omega)]
  refine⟨o,by omega,?_⟩
  refine ah.ne (λB=>?_) (λheq=>?_)
  .simp(disch:=omega)only[↓wr,seval,wq]
   exact .inl ⟨Dl',St ++ x :: b,Sl',⟨_,a⟩,J.keep (by omega)⟩
  .have hq:=a.hq
   have e3:((St.length+1:Nat):Int) - 1=(St.length:Int):=by omega
   have ck:(St ++ x :: b).length=St.length+(x :: b).length:=aab
   have U:H' st=.arr 1 (ga (St ++ x :: b)):=by
    rcases a.own with ⟨R,k2,k3⟩ | ⟨w,R,k2⟩
    .simp at k3
    .simp only[V.sl.injEq] at R
     rw[R.1];exact k2
   have F:=a.new st rfl
   have b8:dE 1 (.sl st 0 (St ++ x :: b).length 1) (some (gi (St.length:Int))) none=some (.sl st St.length (x :: b).length 1,.none,[]):=by
    rw[J2 (by omega),ck]
    congr 3 <;> omega
   have cr:dE 1 (.sl st 0 (St ++ x :: b).length 1) none (some (gi (St.length:Int)))=some (.sl st 0 St.length 1,.none,[]):=Kd (by omega)
   have c5:=Fh J.g.nd J.g.lt
   have cu:=J.fresh M hG
   have b9:=J.pop Q M o cu (by omega)
   simp(disch:=omega)only[↓wr,seval,wq,t0,t1,t2,t3,t6,hq,e3,b8]
   refine aR.up (b.length+1) (λj T H'=>∃ (Dj:List Int) (I:List BV),nh c n H' Dj (St ++ x :: b) I (.sl st 0 (St ++ x :: b).length 1)/\dF Dj=(λz=>if z∈(x :: b).take j then fy else dF Dl' z)/\sF I=(λz=>if z∈(x :: b).take j then sF Sl' x else sF Sl' z) /\
    T 0=gi x/\T 1=.ptr c.qs 0 0/\T 2=.ptr c.qd 0 0/\T 3=.aI [.ptr c.W 0 0] 0/\T 6=gi ((St.length+1:Nat):Int)/\T 79=.sl st St.length (b.length+1) 1/\T 80=gi ((b.length+1:Nat):Int)/\T 81=gi j) ⟨Dl',Sl',a,by simp,by simp,t0,t1,t2,t3,t6,rfl,rfl,rfl⟩ ?_
   clear t0 t1 t2 t3 t4 t6 t27 t28 t29 N a2 a3 a4 hq U a b8
   rintro j k2 T H6 cv ⟨Dj,I,v,bb,X,t0,t1,t2,t3,t6,t79,t80,t81⟩
   obtain⟨N,a2,a3,a4⟩:=v.at f
   have U:H6 st=.arr 1 (ga (St ++ x :: b)):=by
    rcases v.own with ⟨R,k2,k3⟩ | ⟨w,R,k2⟩
    .simp at k3
    .simp only[V.sl.injEq] at R
     rw[R.1];exact k2
   have an:=v.dl
   have aq:=v.sl
   simp(disch:=omega)only[↓wr,seval,wq,pn,t0,t1,t2,t3,t6,t79,t80,t81]
   apply ah.dec<;>intro cA
   .have Y:j < (x :: b).length:=by simp;omega
    have hy:(x :: b)[j]?=some ((x :: b)[j]'Y):=Zj Y
    have G:(x :: b).take (j+1)=(x :: b).take j ++ [(x :: b)[j]'Y]:=by rw[ZG,hy];rfl
    generalize (x :: b)[j]'Y=y at hy G
    have A:=J.g.lt y (aaX _ (Zp hy))
    have cC:(ga (St ++ x :: b)).getD (St.length+j) []=[gi (y:Int)]:=DE (by rw[Z3 (by omega),Nat.add_sub_cancel_left];exact hy)
    have cN:sF I x=sF Sl' x:=by rw[X];simp only;split <;> rfl
    have e1:(bF Dj).set y [gi 1073741824]=bF (Dj.set y fy):=ints_set _ _ _
    have e2:(bV I).set y [gw (sF I x)]=bV (I.set y (sF I x)):=by simp[aaR]
    simp(disch:=omega)only[↓wr,seval,wq,t0,t1,t2,t3,t6,t79,t80,t81,U,cC,N,a3,v.hd,v.hs,p8 (l:=Dj) (i:=y) (by omega),pz (l:=I) (i:=x) (by omega),pz (l:=I) (i:=y) (by omega),e1,e2,m1,m2,m3,m7,m8,m9,m13,m14,m15,m16]
    refine⟨by omega,by omega,A,by omega,o,by omega,A,by omega,?_⟩
    have ar:∀ z,z∈(x :: b).take (j+1)↔z=y∨z∈(x :: b).take j:=λz=>by rw[G,ZN,aaj];exact Or.comm
    refine aE cv (by omega) ⟨Dj.set y fy,I.set y (sF I x),(v.N2 f (by simp[an])).Bl f (by simp[aq]),?_,?_,t0,t1,t2,t3,t6,t79,t80,rfl⟩
    .rw[El (by omega),bb]
     funext z
     simp only[ki,ar]
     by_cases P:z=y
     .rw[Zn P,Zn (.inl P)]
     .by_cases Z:z∈(x :: b).take j
      .rw[Zk P,Zn Z,Zn (.inr Z)]
      .rw[Zk P,Zk Z,Zk (λh=>h.elim P Z)]
    .rw[KP (by omega),cN,X]
     funext z
     simp only[ki,ar]
     by_cases P:z=y
     .rw[Zn P,Zn (.inl P)]
     .by_cases Z:z∈(x :: b).take j
      .rw[Zk P,Zn Z,Zn (.inr Z)]
      .rw[Zk P,Zk Z,Zk (λh=>h.elim P Z)]
   .have hj:j=b.length+1:=by omega
    rw[Zx (by simp;omega)] at bb X
    simp(disch:=omega)only[↓wr,seval,wq,t1,t6,v.hq,e3,cr]
    refine .inr ⟨Dj,I,st,ga (x :: b),an,aq,?_,?_,?_,?_,F,λid h1 h2 h3 h4=>?_,by rw[bb,X];exact b9⟩
    .show (H6.set c.qs _) c.d=_
     simp only[View.set];rw[Zk m13];exact v.hd
    .show (H6.set c.qs _) c.s=_
     simp only[View.set];rw[Zk m14];exact v.hs
    .simp[View.set]
    .show (H6.set c.qs _) st=_
     simp only[View.set];rw[Zk (λe=>f.live.1 (by rw[<-e];exact F)),U];exact aau (cU.arr 1) ZD
    .show (H6.set c.qs _) id=_
     simp only[View.set];rw[Zk h2];exact v.keep id h1 h2 h3 h4
def gz:SC :=
 ae [ab [aS 9 .lss 8 7],bT 9 (.exit 0),.block 1 (ae [ab [aa 10 8,aa 5 10],ab [aa 11 1,aa 12 0,aa 13 5,aH 14 2 12 13,aT 15 2 14,((some 16),.call (.tmp 11) [(.tmp 15)])],bc 16 (ae [ab [aa 17 5,aa 4 17],.ret])]),ab [aG 18 .add 8 1,aa 8 18]]
def gG:SF:=⟨ae [ab [aQ 4 0],ae [ab [aa 6 0,aP 7 6,aQ 8 0],bU 0 gz],ab [aQ 4 (-1)],.ret],
 [.tmp 4],19⟩
theorem kb:aN Tryz.prog 68 []=some gG:=by kernel_rfl
def Am:SF:=⟨ae [ab [cw 2 0,bz 3 false],ab [ao 4 0 2,ai 5 4,ai 6 1,aS 7 .eql 5 6,aa 3 7],.ret],
 [.tmp 3],8⟩
theorem De:aN Tryz.prog 69 [2]=some Am:=by kernel_rfl
def Ae:SC :=
 ae [ab [aS 24 .lss 23 22],bT 24 (.exit 0),.block 1 (ae [ab [aH 25 1 21 23,ai 26 25,((some 10),.op (.alloc [(.val (.int .i64 0))])),bK 1 10 26],ab [aa 27 0,aa 28 8,aH 29 2 27 28,ao 30 1 29,ai 31 30,((some 32),.op (.uS 69 [] [(.tmp 10)])),bh 33 68 [31,32],aa 11 33],ae [ab [aa 34 11,aG 35 .lss 34 0],bc 35 (ae [ab [aQ 6 0,bz 7 false],.ret])],ab [aa 36 0,aa 37 8,aH 38 2 36 37,ao 39 1 38,ai 40 39,aa 41 11,aH 42 2 40 41,ao 43 1 42,ai 44 43,aa 8 44],.region false [⟨none,[aa 45 8,aG 46 .lss 45 0,aa 47 46]⟩,⟨(some (47,false)),[aa 48 8,aa 49 0,aP 50 49,aS 51 .geq 48 50]⟩,⟨none,[cD 52 47 51]⟩],bc 52 (ae [ab [aQ 6 0,bz 7 false],.ret])]),ab [aG 53 .add 23 1,aa 23 53]]
def CR:SF:=⟨ae [ab [aQ 6 0,bz 7 false],ab [aa 12 1,aa 8 12],ae [.region false [⟨none,[aa 13 8,aG 14 .lss 13 0,aa 15 14]⟩,⟨(some (15,false)),[aa 16 8,aa 17 0,aP 18 17,aS 19 .geq 16 18]⟩,⟨none,[cD 20 15 19]⟩],bc 20 (ae [ab [aQ 6 0,bz 7 false],.ret])],ae [ab [aa 21 2,aP 22 21,aQ 23 0],bU 0 Ae],ab [aa 54 8,aa 6 54,bz 7 true],.ret],
 [.tmp 6,.tmp 7],55⟩
theorem FO:aN Tryz.prog 28 []=some CR:=by kernel_rfl
theorem PG (l:List cn) (hl:aJ l) (f:FuncId) (cap:List V) (p:cn->Bool) (H:View) (g:∀ x∈l,au Tryz.prog f (.agg (iX x) :: cap) H λr H'=>r=gb (p x)/\H'=H) :
  au Tryz.prog 68 [.aD (fc l),.fn f [] cap] H λr H'=>r=gi (cR p l 0)/\H'=H:=by
 refine au.of mixed kb ?_
 unfold aJ at hl
 simp(disch:=omega)only[↓wr,seval,wq,gG,fc]
 refine aR.up l.length (λi T H'=>H=H'/\cR p (l.drop i) i=cR p l 0/\T 0=.aD (l.map iX)/\T 1=.fn f [] cap/\T 7=gi l.length/\T 8=gi i) ⟨rfl,rfl,rfl,rfl,rfl,rfl⟩ ?_
 rintro i k T _ hk ⟨rfl,hi,b,h1,c,d⟩
 simp(disch:=omega)only[↓wr,seval,wq,gz,b,h1,c,d]
 apply ah.dec<;>intro h
 .have e:l[i]?=some (l[i]'(by omega)):=Zj (by omega)
  have hm:l[i]'(by omega)∈l:=Zs _
  rw[fw (show i < l.length by omega)] at hi
  generalize l[i]'(by omega)=x at e hm hi
  simp(disch:=omega)only[↓wr,seval,wq,b,h1,c,d,Zm,e,Zq,iX]
  have a:=g x hm
  simp only[iX] at a
  refine ax.dJ (a.mono ?_)
  rintro r j ⟨rfl,rfl⟩
  simp only[cR] at hi
  simp(disch:=omega)only[↓wr,seval,wq]
  apply ah.split<;>intro hp
  .simp(disch:=omega)only[↓wr,seval,wq,b,h1,c,d]
   rw[<-hi,Zn hp]
  .simp(disch:=omega)only[↓wr,seval,wq,b,h1,c,d]
   refine aE hk (by omega) ⟨rfl,?_,b,h1,c,rfl⟩
   rw[Zk (by simp[hp])] at hi
   push_cast;exact hi
 .rw[ZQ (by omega)] at hi
  simp(disch:=omega)only[↓wr,seval,wq,b,h1,c,d]
  rw[<-hi];rfl
theorem Vd (x:cn) (s:Int) (q:Nat) (H:View) (hq:H q=.arr 1 [[gi s]]):au Tryz.prog 69 [.agg (iX x),.ptr q 0 0] H λr H'=>r=gb (decide (x.sym=s))/\H'=H:=by
 refine au.of mixed De ?_
 simp(disch:=omega)only[↓wr,seval,wq,Am,iX,hq]
 congr 2
theorem Le (s:Int):∀ (l:List cn) (i:Int),0<=i->(cR (λe=>decide (e.sym=s)) l i < 0->dI l s = -1)/\(0<=cR (λe=>decide (e.sym=s)) l i->∃ (k:Nat) (e:cn),cR (λe=>decide (e.sym=s)) l i=i+k/\l[k]?=some e/\dI l s=e.to)
 | [],i,_=>⟨λ_=>rfl,λh=>by simp[cR] at h⟩
 | x :: l,i,d=>by
  simp only[cR,dI,ZA]
  by_cases h:x.sym=s
  .rw[Zn h,Zn h]
   exact⟨λh=>by omega,λ_=>⟨0,x,by simp,rfl,rfl⟩⟩
  .rw[Zk h,Zk h]
   obtain⟨h1,a⟩:=Le s l (i+1) (by omega)
   refine⟨h1,λh=>?_⟩
   obtain⟨k,e,b,k2,c⟩:=a h
   exact⟨k+1,e,by rw[b];push_cast;omega,by simpa using k2,c⟩
theorem Rq {l:List cn} (h:∀ e∈l,cp e.to) (s:Int):cp (dI l s):=by
 induction l with
 | nil=>unfold cp;simp[dI]
 | cons e l a =>
  rw[dI];split
  .exact h e (by simp)
  .exact a λx b=>h x (by simp[b])
theorem Vj (a:List aM) (_:aJ a) (he:∀ s∈a,aJ s.aK/\∀ e∈s.aK,cp e.sym/\cp e.to) (fr:Int) (syms:List Int) (hs:aJ syms):az Tryz.prog 28 [ba a,gi fr,encI syms] (.bt [gi (dY a fr syms).1,gb (dY a fr syms).2]):=by
 unfold aJ at hs
 refine az.tree (by
  intro v l;simp at l
  rcases l with rfl | rfl | rfl
  .exact lg _
  .exact .val _
  .exact ew _) (AV (.val _) (.val _)) λH=>?_
 refine au.of mixed FO ?_
 unfold dY
 simp(disch:=omega)only[↓wr,seval,wq,CR,ba,encI]
 apply ah.dec<;>intro h1
 .simp(disch:=omega)only[↓wr,seval,wq]
  rw[Zn (by omega)]
 simp(disch:=omega)only[↓wr,seval,wq,ba]
 apply ah.dec<;>intro t
 .simp(disch:=omega)only[↓wr,seval,wq]
  rw[Zn (by omega)]
 rw[Zk (by omega)]
 simp(disch:=omega)only[↓wr,seval,wq]
 refine aR.up syms.length (λi T H'=>∃ at_:Int,0<=at_/\at_ < a.length/\fU a at_ (syms.drop i)=fU a fr syms/\T 0=ba a/\T 8=gi at_/\T 21=encI syms/\T 22=gi syms.length/\T 23=gi i) ⟨fr,by omega,by omega,rfl,rfl,rfl,rfl,rfl,rfl⟩ ?_
 rintro i k T H' hk ⟨at_,C,D,hw,t0,t8,t21,t22,t23⟩
 simp(disch:=omega)only[↓wr,seval,wq,Ae,t0,t8,t21,t22,t23,encI]
 apply ah.dec<;>intro u
 .have m:syms[i]?=some (syms[i]'(by omega)):=Zj (by omega)
  rw[aad (show i < syms.length by omega)] at hw
  generalize syms[i]'(by omega)=x at m hw
  have f:a[at_.toNat]?=some (a.getD at_.toNat bg):=getD_some (by omega)
  obtain⟨b,c⟩:=he _ (Zp f)
  rw[fU] at hw
  have g:=Rq (λe h=>(c e h).2) x
  generalize a.getD at_.toNat bg=S at f b c hw g
  simp(disch:=omega)only[↓wr,seval,wq,t0,t8,t21,t22,t23,encI,Zm,m,Zq]
  intro q hq
  rw[set_set]
  have d:(H'.set q (.arr 1 [[gi x]])) q=.arr 1 [[gi x]]:=by simp[View.set]
  generalize H'.set q (.arr 1 [[gi x]])=n at d
  simp(disch:=omega)only[↓wr,seval,wq,t0,t8,ba,Zm,f,Zq,dy]
  refine ax.dJ ((PG S.aK b 69 [.ptr q 0 0] (λe=>decide (e.sym=x)) n (λe _=>Vd e x q n d)).mono ?_)
  rintro r E ⟨rfl,rfl⟩
  obtain⟨i1,i2⟩:=Le x S.aK 0 (by omega)
  unfold aJ at b
  simp(disch:=omega)only[↓wr,seval,wq]
  apply ah.dec<;>intro o
  .simp(disch:=omega)only[↓wr,seval,wq]
   rw[<-hw,i1 o,Zk (by omega)]
  .obtain⟨j,e,w,p,y⟩:=i2 (by omega)
   have F:=(Zy.1 p).1
   rw[w]
   have z:((0:Int)+(j:Int))=(j:Int):=by omega
   rw[z]
   rw[y] at hw g
   unfold cp at g
   simp(disch:=omega)only[↓wr,seval,wq,t0,t8,ba,Zm,f,Zq,dy,fc,p,iX]
   apply ah.dec<;>intro A
   .simp(disch:=omega)only[↓wr,seval,wq]
    rw[<-hw,Zk (by omega)]
   .simp(disch:=omega)only[↓wr,seval,wq,t0,ba]
    apply ah.dec<;>intro B
    .simp(disch:=omega)only[↓wr,seval,wq]
     rw[<-hw,Zk (by omega)]
    .simp(disch:=omega)only[↓wr,seval,wq,t0,t21,t22,t23]
     rw[Zn ⟨by omega,by omega⟩] at hw
     exact aE hk (by omega) ⟨e.to,by omega,by omega,hw,t0,rfl,t21,t22,rfl⟩
 .simp(disch:=omega)only[↓wr,seval,wq,t8]
  rw[ZQ (by omega),fU] at hw
  rw[<-hw]
theorem pW.start {n:Nat} {E:Nat->List Nat} {S0:Nat->BV} : pW n E S0 (λ_=>0) [] S0 where
 nd:=.nil
 lt:=λ_ h=>by simp at h
 zero:=λ_ _ _=>⟨rfl,by simp⟩
 Ii:=λ_ _ h=>by simp[fy] at h
 on:=λ_ _ h=>absurd rfl h
 sound:=λz t _ h=>⟨z,.refl,h⟩
 base:=λ_ _ _ h=>h
theorem XE (n:Nat):dF (List.replicate n 0)=λ_=>0:=by
 funext z
 simp only[dF,Zi,aaO]
 split <;> rfl
theorem jo {p:Prop} [Decidable p] {k:Nat} {es:List (List V)} {o:cU} (h:(if p then cU.arr k es else o)=.dead):¬ p/\o=.dead:=by
 split at h
 .simp at h
 .rename_i hp;exact⟨hp,h⟩
structure Xy (n:Nat) (E:Nat->List Nat) (H:View) (W s e:Nat) (us:List V) (fs:V × V × V × V × V × V × V × V):Prop where
 hW:H W=.arr 10 [[fs.1,fs.2.1,fs.2.2.1,fs.2.2.2.1,fs.2.2.2.2.1,fs.2.2.2.2.2.1,fs.2.2.2.2.2.2.1,fs.2.2.2.2.2.2.2,.sl s 0 n 1,.sl e 0 n 1]]
 he:H e=.arr 1 (us.map λu=>[u])
 hl:us.length=n
 hu:∀ x,x < n->aV H (us.getD x .any) 1 (ga (E x))
 hE:∀ x,x < n->(E x).length<=1000000000/\∀ y∈E x,y < n
 hw:cT fs.2.2.2.2.2.2.2=some n
 ns:W≠s/\e≠s/\∀ x,x < n->owner (us.getD x .any)≠some s
theorem Ik {n:Nat} {E:Nat->List Nat} {H:View} {W s e:Nat} {us:List V} {fs:V × V × V × V × V × V × V × V} (g:Xy n E H W s e us fs) (h1:1<=n) (hn:n<=100000) (Sl:List BV) (hs:H s=.arr 1 (bV Sl)) (U:Sl.length=n) :
  au Tryz.prog 75 [.ptr W 0 0] H λ_ H'=>∃ Sl':List BV,Sl'.length=n/\H' s=.arr 1 (bV Sl')/\(∀ z t,z < n->((sF Sl' z).getLsbD t=true↔mF E (sF Sl) z t))/\∀ id,H id≠.dead->id≠s->H' id=H id:=by
 obtain⟨f0,f1,f2,f3,f4,f5,f6,f7⟩:=fs
 refine au.of mixed yM ?_
 have hW:=g.hW
 have hw:=g.hw
 simp only at hW hw
 simp(disch:=omega)only[↓wr,seval,wq,tq,hW,hw]
 refine⟨⟨by omega,by unfold aA;omega,by unfold aA;omega⟩,λh0=>by omega,λ_ d X=>?_⟩
 intro o lu A a j zU
 obtain⟨Y,lu⟩:=jo lu
 obtain⟨a2,a⟩:=jo a
 rw[Zk a2] at a
 obtain⟨a3,a⟩:=jo a
 obtain⟨a4,zU⟩:=jo zU
 obtain⟨a5,zU⟩:=jo zU
 rw[Zk a5] at zU
 obtain⟨Z,zU⟩:=jo zU
 have lw:∀ {id k es},H id=.arr k es->id≠d/\id≠o/\id≠A/\id≠j:=λ{id k es} h=>by
  refine⟨λe=>?_,λe=>?_,λe=>?_,λe=>?_⟩ <;> rw[e] at h <;> simp_all
 obtain⟨w1,w2,w3,w4⟩:=lw hW
 obtain⟨s1,s2,s3,s4⟩:=lw hs
 obtain⟨e1,e2,e3,e4⟩:=lw g.he
 simp(disch:=omega)only[↓wr,seval,wq,w1,w2,w3,w4,hw]
 generalize b:View.set (View.set _ _ _) j (cU.arr 1 [[V.fn _ _ _]])=H0
 have hk:∀ id,id≠d->id≠o->id≠A->id≠j->H0 id=H id:=λid B k2 k3 k4=>by
  rw[<-b];simp only[View.set];rw[Zk k4,Zk k4,Zk k3,Zk k2,Zk k2,Zk B]
 have J:H0 j=.arr 1 [[.fn 122 [] [.ptr A 0 0,.ptr o 0 0,.aI [.ptr W 0 0] 0,.ptr j 0 0]]]:=by rw[<-b];simp[View.set]
 have v:H0 A=.arr 1 [[.emp 1]]:=by rw[<-b];simp only[View.set];rw[Zk (Ne.symm a4),Zk (Ne.symm a4)];simp
 have K:H0 o=.arr 1 [[.sl d 0 n 1]]:=by rw[<-b];simp only[View.set];rw[Zk (Ne.symm a5),Zk (Ne.symm a5),Zk (Ne.symm a2)];simp
 have L:H0 d=.arr 1 (bF (List.replicate n 0)):=by rw[<-b];simp only[View.set];rw[Zk (Ne.symm Z),Zk (Ne.symm Z),Zk (Ne.symm a3),Zk (Ne.symm Y),Zk (Ne.symm Y)];simp
 clear b
 let c:DZ:=⟨A,o,j,W,d,s,e,f0,f1,f2,f3,f4,f5,f6,f7,us,H0⟩
 have an:∀ x,x < n->∀ id,owner (us.getD x .any)=some id->id≠d/\id≠o/\id≠A/\id≠j:=λx D id w=>by
  rcases g.hu x D with ⟨_,k,k2⟩ | ⟨m,B,k2⟩
  .rw[k2] at w;simp[owner] at w
  .rw[B] at w;simp only[owner,Zl] at w
   rw[<-w];exact lw k2
 have M:D7 c n E:={
  lu:=K
  zU:=J
  hW:=by rw[<-hW];exact hk W w1 w2 w3 w4
  he:=by rw[<-g.he];exact hk e e1 e2 e3 e4
  hl:=g.hl
  hu:=λx D=>by
   rcases g.hu x D with h | ⟨m,B,k2⟩
   .exact .inl h
   .refine .inr ⟨m,B,?_⟩
    obtain⟨F,Q,G,R⟩:=lw k2
    rw[<-k2];exact hk m F Q G R
  hE:=g.hE
  live:=⟨by simp only[c];rw[v];simp,by simp only[c];rw[L];simp,by simp only[c];rw[hk s s1 s2 s3 s4,hs];simp⟩
  ne:=⟨a3,Ne.symm s3,Ne.symm s1⟩
  zJ:=λid h=>by
   obtain⟨n1,n2,n3⟩:=g.ns
   rcases h with rfl | rfl | rfl | rfl | ⟨x,D,w⟩
   .exact⟨Ne.symm a2,Y,Ne.symm s2⟩
   .exact⟨a4,Z,Ne.symm s4⟩
   .exact⟨w3,w1,n1⟩
   .exact⟨e3,e1,n2⟩
   .obtain⟨F,Q,G,R⟩:=an x D id w
    exact⟨G,F,λe=>n3 x D (by have e2:id=s:=e;rw[<-e2];exact w)⟩ }
 have aq:nh c n H0 (List.replicate n 0) [] Sl (.emp 1):=⟨by simp,U,L,by simp only[c];rw[hk s s1 s2 s3 s4,hs],v,.nil,λid h=>by simp[owner] at h,λid _ _ _ _=>rfl⟩
 refine aR.up n (λi T H'=>∃ (Dl:List Int) (I:List BV) (u:V),nh c n H' Dl [] I u/\pW n E (sF Sl) (dF Dl) [] (sF I)/\(∀ z,z < i->dF Dl z=fy)/\T 2=.ptr o 0 0/\T 4=.ptr j 0 0/\T 17=gi n/\T 18=gi i) ⟨List.replicate n 0,Sl,.emp 1,aq,by rw[XE];exact pW.start,λz C=>by omega,rfl,rfl,rfl,rfl⟩ ?_
 rintro i k T H' N ⟨Dl,I,u,y,S,f,t2,t4,t17,t18⟩
 obtain⟨b1,b2,b3,b4⟩:=y.at M
 have bd:=y.dl
 have hd:=y.hd
 simp only[c,DZ.fn] at b1 b2 hd
 simp(disch:=omega)only[↓wr,seval,wq,qS,t2,t4,t17,t18]
 apply ah.dec<;>intro hc
 .have hi:i < n:=by omega
  simp(disch:=omega)only[↓wr,seval,wq,t2,t4,t17,t18,b1,hd,p8 (l:=Dl) (i:=i) (by omega)]
  refine⟨hi,by omega,?_⟩
  apply ah.eq<;>intro C
  .simp(disch:=omega)only[↓wr,seval,wq,t4,b2]
   refine ax.dJ ((UJ M hn (sF Sl) (IP n (dF Dl)) H' Dl [] I i (Zt _) ⟨u,y⟩ S hi C).mono ?_)
   rintro r H5 ⟨ar,bl,a7,⟨u5,a8⟩,hV⟩
   obtain⟨rfl,O⟩:=hV.top hi
   simp(disch:=omega)only[↓wr,seval,wq,t2,t4,t17,t18]
   refine aE N (by omega) ⟨ar,a7,u5,a8,hV.1,λz bb=>?_,t2,t4,t17,rfl⟩
   by_cases e:z=i
   .rw[e];exact O
   .have:=f z (by omega)
    rw[(hV.2.1 z (by rw[this];decide)).1];exact this
  .simp(disch:=omega)only[↓wr,seval,wq,t2,t4,t17,t18]
   refine aE N (by omega) ⟨Dl,I,u,y,S,λz bb=>?_,t2,t4,t17,rfl⟩
   by_cases e:z=i
   .rw[e]
    refine aay λhf=>?_
    obtain⟨p,B,_⟩:=S.on i hi C hf
    simp at B
   .exact f z (by omega)
 .simp(disch:=omega)only[↓wr,seval,wq]
  refine⟨I,y.sl,y.hs,λz t C=>S.all (λz C=>f z (by omega)) C,λid h1 h2=>?_⟩
  have q:id≠d/\id≠o/\id≠A/\id≠j:=⟨λe=>h1 (by rw[e];exact X),λe=>h1 (by rw[e];exact lu),λe=>h1 (by rw[e];exact a),λe=>h1 (by rw[e];exact zU)⟩
  obtain⟨F,Q,G,R⟩:=q
  have P:=hk id F Q G R
  rw[<-P]
  exact y.keep id (by simp only[c];rw[P];exact h1) G F h2
def Bc:SF:=⟨ae [ab [cw 2 0,cq 4 1],ae [ab [aa 5 1,aG 6 .eql 5 (-1)],bc 6 (ae [ab [ao 7 3 2,ai 8 7,((some 9),.op (.arith .sub (.val (.val (.int .i64 (-1)))) (.tmp 8))),((some 10),.op (.bO 1 1 [(.val (.int .i64 0))] [(0,(.tmp 9))])),aa 4 10],.ret])],ab [ao 11 2 2,ai 12 11,aa 13 1,aH 14 3 12 13,ao 15 1 14,ai 16 15,aa 4 16],.ret],
 [.tmp 4],17⟩
theorem FD:aN Tryz.prog 53 [2]=some Bc:=by kernel_rfl
def CK:SF:=⟨ae [ab [cw 2 0,cw 3 1,aQ 4 0,bz 5 false],ae [ab [aT 7 4 2,ao 8 0 3,ai 9 8,bh 10 53 [7,9],aa 6 10],ab [ao 11 1 3,ai 12 11,aa 13 6,aP 14 13,aS 15 .lss 12 14],bc 15 (ae [ab [aa 16 6,ao 17 1 3,ai 18 17,aH 19 1 16 18,ai 20 19,aa 4 20,bz 5 true],.ret])],ab [aQ 4 0,bz 5 false],.ret],
 [.tmp 4,.tmp 5],21⟩
theorem FR:aN Tryz.prog 50 [2,3]=some CK:=by kernel_rfl
def CQ:SF:=⟨ae [ab [cw 2 0,aQ 4 0],ae [ab [aa 5 1,aG 6 .lss 5 0],bc 6 (ae [ab [ao 7 0 2,ai 8 7,aP 9 8,aG 10 .sub 9 1,aa 11 1,aS 12 .sub 10 11,aa 4 12],.ret])],ab [aa 13 1,aa 4 13],.ret],
 [.tmp 4],14⟩
theorem GD:aN Tryz.prog 111 [2]=some CQ:=by kernel_rfl
def c8:SF:=⟨ae [ab [cq 2 1],ae [ab [aa 3 0,((some 4),.op (.nil true 0 (.tmp 3) (.val (.emp 1))))],bc 4 (ae [ab [cq 2 1],.ret])],ab [cq 5 2,aa 6 0,eE 7 2 16 5 6,aa 2 7],.ret],
 [.tmp 2],8⟩
theorem dz:aN Tryz.prog 58 []=some c8:=by kernel_rfl
def vg:SC :=
 ae [ab [aS 54 .lss 53 52],bT 54 (.exit 2),.block 3 (ae [ab [aa 55 53,aH 56 3 51 53,aT 57 3 56,((some 11),.op (.alloc [(.val (.int .i64 0)),(.emp 1),(.val (.int .i64 0))])),aa 10 55,bK 3 11 57],ab [ao 58 0 11,ai 59 58,aa 60 8,((some 61),.op (.arith .sub (.val (.val (.int .i64 (-1)))) (.tmp 60))),aS 62 .eql 59 61],bc 62 (ab [aa 63 5,aa 64 10,((some 65),.op (.build [(.val (.int .i64 0)),(.val (.int .i64 0))] [(0,1,(.tmp 64))])),((some 66),.op (.bO 1 2 [(.val (.int .i64 0)),(.val (.int .i64 0))] [(0,(.tmp 65))])),eE 67 2 16 63 66,aa 5 67])]),ab [aG 68 .add 53 1,aa 53 68]]
def u9:SC :=
 ae [ae [ab [aa 18 7,aa 19 5,aP 20 19,aS 21 .lss 18 20],bT 21 (.exit 0)],.block 1 (ae [ab [aT 25 4 2,aa 26 5,aa 27 7,aH 28 2 26 27,aT 29 2 28,bh 30 50 [25,29],aa 24 30,dW 31 0 24,dW 32 1 24,aa 8 31,aa 9 32],ae [.region false [⟨none,[aa 33 9,c6 34 33,aa 35 34]⟩,⟨(some (35,false)),[aa 36 8,aG 37 .geq 36 0]⟩,⟨none,[cD 38 35 37,aa 39 38]⟩,⟨(some (39,false)),[aa 40 6,aa 41 8,((some 42),.op (.arith .sub (.val (.val (.int .i64 (-1)))) (.tmp 41))),aH 43 1 40 42,ai 44 43]⟩,⟨none,[cD 45 39 44]⟩],bc 45 (.exit 1)],ab [aa 46 6,aa 47 8,((some 48),.op (.arith .sub (.val (.val (.int .i64 (-1)))) (.tmp 47))),aH 49 1 46 48,(none,.op (.store 1 (.tmp 49) (.val (.val (.bool true)))))],ab [ao 50 2 2,ai 51 50,aP 52 51,aQ 53 0],bU 2 vg]),ab [aa 22 7,aG 23 .add 22 1,aa 7 23]]
def x9:SF:=⟨ae [ab [cw 2 0,cq 4 1],ab [aa 12 1,bh 13 58 [12],aa 5 13],ab [ao 14 1 2,ai 15 14,aP 16 15,((some 17),.op (.make 1 1 [(.val (.bool false))] (.tmp 16) (.tmp 16))),aa 6 17],ae [ab [aQ 7 0],bU 0 u9],ab [aa 69 5,bh 70 64 [69],aa 4 70],.ret],
 [.tmp 4],71⟩
theorem Cv:aN Tryz.prog 56 [2]=some x9:=by kernel_rfl
theorem PQ (g:aj) (hs : -100<=g.start/\g.start<=100) (r:Int) (hr : -1<=r/\r < (g.rules.length:Int)):az Tryz.prog 53 [.agg (ag g),gi r] (encI (aW g r)):=by
 refine az.of (by
  intro v a;simp at a
  rcases a with rfl | rfl
  .exact cb _ (cY g)
  .exact .val _) ?_
 refine au.of mixed FD ?_
 unfold aW
 simp(disch:=omega)only[↓wr,seval,wq,Bc,ag,encS]
 apply ah.eq<;>intro h1
 .simp(disch:=omega)only[↓wr,seval,wq,ag,encS]
  intro n
  rw[Zn h1]
  rintro c a
  refine dg.fr (kM (l:=[-1 - g.start]) (.inr ⟨n,rfl,?_⟩))
  rw[a];simp[View.set]
 .have b:g.rules[r.toNat]?=some (ay g r):=by unfold ay;exact getD_some (by omega)
  rw[Zk h1]
  generalize ay g r=R at b
  simp(disch:=omega)only[↓wr,seval,wq,ag,encS,Zm,b,Zq,aO]
  intro c _
  exact .tree _ (ew R.right)
theorem Lj (g:aj) (c:g.dP) (x:aB) (b:cB g x):az Tryz.prog 50 [.agg (ag g),.agg (bE x)] (.bt [gi (bA g x).1,gb (bA g x).2]):=by
 have h1:=PQ g (tD c) x.aw b.1
 have hl:=fp c b.1
 have hd:=b.2
 refine az.tree (by
  intro v a;simp at a
  rcases a with rfl | rfl
  .exact cb _ (cY g)
  .exact cb _ λv a=>by simp[bE] at a;rcases a with rfl | rfl <;> exact .val _) (.bt _ λi hi=>by
   match i,hi with
   | 0,_=>exact .val _
   | 1,_=>exact .val _) λH=>?_
 refine au.of mixed FR ?_
 simp only[ag,encS,encI] at h1
 unfold bA
 simp(disch:=omega)only[↓wr,seval,wq,CK,ag,encS,bE]
 refine ax.pure h1 ?_
 generalize aW g x.aw=R at hd hl ⊢
 simp(disch:=omega)only[↓wr,seval,wq,bE]
 apply ah.dec<;>intro d
 .have e:R[x.dot.toNat]?=some (R.getD x.dot.toNat 0):=getD_some (by omega)
  simp(disch:=omega)only[↓wr,seval,wq,bE,Zm,e,Zq]
  rw[Zk (by omega)]
 .simp(disch:=omega)only[↓wr,seval,wq]
  rw[Zn (by omega)]
theorem Ut (g:aj) (b:g.dP) (s:Int) (hs : -1000<=s/\s<=1000):az Tryz.prog 111 [.agg (ag g),gi s] (gi (kF g s)):=by
 have c:=b.af
 refine az.val (by
  intro v a;simp at a
  rcases a with rfl | rfl
  .exact cb _ (cY g)
  .exact .val _) λH=>?_
 refine au.of mixed GD ?_
 unfold kF
 simp(disch:=omega)only[↓wr,seval,wq,CQ,ag,encS]
 apply ah.dec<;>intro h1
 .simp(disch:=omega)only[↓wr,seval,wq,ag]
  rw[Zn h1]
 .simp(disch:=omega)only[↓wr,seval,wq]
  rw[Zk h1]
theorem bZ.YH {P:Program} {f:FuncId} {h:aF} {u:V} (hu:∀ Z μ hp x,aC Z μ hp u x->∃ a cap,x=.slice a 0 cap/\(a=none->cap=0)) (h1:bZ P f [.emp 1] h (.emp 1) h) (n:bZ P f [.emp 2] h (.emp 2) h) (o:bZ P f [.ef] h (.emp 2) h):bZ P f [u] h (.emp 0) h:=by
 refine⟨Zt _,λZ μ F w xs j hr d=>?_⟩
 obtain⟨hl,p⟩:=j
 obtain⟨x,rfl⟩:∃ x,xs=[x]:=by
  match xs,hl with
  | [x],_=>exact⟨x,rfl⟩
 have q:aC Z μ w.heap u x:=p 0 (by simp)
 have one:∀ v,aC Z μ w.heap v x->gS Z μ w.heap [v] [x]:=λv h=>⟨rfl,λi hi=>by
  simp at hi;subst hi;exact h⟩
 have b:∀ k,bZ P f [if k=3 then .ef else .emp k] h (if k=3 then .emp 2 else .emp k) h->aC Z μ w.heap (if k=3 then .ef else .emp k) x->Calls P f [x].toArray w λe w'=>∃ x g μ',e=.returned x/\aC g μ' w'.heap (.emp 0) x/\iU g μ' w'.heap (cat h F)/\Ext Z μ w h.length g μ' w'/\(∀ id,id < h.length∨h.length<=id->μ' id=μ id):=by
  intro k hk r
  refine(hk.2 Z μ F w [x] (one _ r) hr d).mono ?_
  rintro e w' ⟨y,g,μ',rfl,l,rest⟩
  refine⟨y,g,μ',rfl,?_,rest⟩
  have:∀ m,aC g μ' w'.heap (.emp m) y->aC g μ' w'.heap (.emp 0) y:=λm h=>by
   cases h with | emp _ a _ _=>exact .emp 0 a (by simp) (by simp)
  split at l <;> exact this _ l
 obtain⟨a,cap,rfl,s⟩:=hu Z μ w.heap x q
 cases a with
 | none =>
  have:=s rfl
  subst this
  exact b 1 (by simpa using h1) (.emp 1 none (by simp) (by simp))
 | some a =>
  cases cap with
  | zero=>exact b 2 (by simpa using n) (.emp 2 (some a) (by simp) (by simp))
  | succ c=>exact b 3 (by simpa using o) (.ef a (c+1))
theorem PY {Z:Nat->Prop} {μ:Mu} {hp:Array Obj} {k:Nat} {x:Value} (h:aC Z μ hp (.emp k) x):∃ a cap,x=.slice a 0 cap/\(a=none->cap=0):=by
 cases h with | emp _ a _ _=>exact⟨a,0,rfl,λ_=>rfl⟩
theorem SL {Z:Nat->Prop} {μ:Mu} {hp:Array Obj} {id off esz:Nat} {x:Value} (h:aC Z μ hp (.sl id off 0 esz) x):∃ a cap,x=.slice a 0 cap/\(a=none->cap=0):=by
 rcases Kg h with ⟨_,a,e⟩ | ⟨b,o0,cap,c,e,f,d,_⟩
 .exact⟨a,0,e,λ_=>rfl⟩
 .exact⟨_,cap,d,λh=>by simp at h⟩
theorem LP (u:V) (hu:∀ Z μ hp x,aC Z μ hp u x->∃ a cap,x=.slice a 0 cap/\(a=none->cap=0)) (h:aF):bZ Tryz.prog 58 [u] h (.emp 0) h:=by
 have hp:∀ v t,Tree v->Tree t->(∀ H,au Tryz.prog 58 [v] H λr _=>r=t)->az Tryz.prog 58 [v] t:=λv t c d h=>az.tree (by intro x b;simp at b;subst b;exact c) d h
 have h1:=hp (.emp 1) (.emp 1) (.emp 1) (.emp 1) (λH=>by
  refine au.of mixed dz ?_
  simp(disch:=omega)only[↓wr,seval,wq,c8])
 have e:=hp (.emp 2) (.emp 2) (.emp 2) (.emp 2) (λH=>by
  refine au.of mixed dz ?_
  simp(disch:=omega)only[↓wr,seval,wq,c8,jV,abf])
 have f:=hp .ef (.emp 2) .ef (.emp 2) (λH=>by
  refine au.of mixed dz ?_
  simp(disch:=omega)only[↓wr,seval,wq,c8,rV,jV,abf])
 exact bZ.YH hu (bZ.hU h1 h) (bZ.hU e h) (bZ.hU f h)
theorem Oy (l:List aB) (hl:l.length<=100000) (u:V) (H:View) (b:aV H u 2 (aU l)):au Tryz.prog 58 [u] H λr H'=>aV H' r 2 (aU l)/\dt H H' r:=by
 cases l with
 | nil =>
  refine⟨by kernel_rfl,?_⟩
  rintro h rfl
  refine⟨.emp 0,h,LP u (λZ μ hp x c=>?_) h,.refl _,.nil,.emp⟩
  rcases b with ⟨_,k,rfl⟩ | ⟨n,rfl,_⟩
  .exact PY c
  .exact SL c
 | cons x r =>
  obtain⟨id,hu,a⟩:=b.sl (by rw[bJ];simp)
  subst hu
  refine au.of mixed dz ?_
  have he:=tT (H:=H) id 0 r.length 2 2 (aU (x :: r)) a (by rw[bJ];simp)
  rw[aaE,Zx (by rw[bJ];simp)] at he
  simp only[ZB] at hl
  have hlen:(aU (x :: r)).length=r.length+1:=by rw[bJ];rfl
  rw[hlen]
  simp(disch:=omega)only[↓wr,seval,wq,c8,he]
  refine gh (es:=[]) (.inl ⟨rfl,2,rfl⟩) (by simp[aU,bE,List.all_map,aL]) (by unfold aA;rw[hlen];simp;omega) (by unfold aA;rw[hlen];simp;omega) ?_
  intro g i d e
  simp(disch:=omega)only[↓wr,seval,wq]
  refine⟨by simpa using d,λj f=>?_⟩
  exact e j f (by simp[owner])
def dN (ks:List Nat):List aB:=ks.map λ(k:Nat)=>(⟨k,0⟩:aB)
theorem Bj {a:List Nat} {n:Nat} (h:a.Nodup) (hk:∀ k∈a,k < n):a.length<=n:=by
 have:=pc a (List.range n) h λx b=>aap.2 (hk x b)
 simpa using this
theorem Sn {l:List Bool} {i:Nat} (h:i < l.length):(dH l).getD i []=[gb (l.getD i false)]:=by
 simp[Zi,h]
structure RM (g:aj) (l:List aB) (H H':View) (i:Nat) (r su:V) (ks:List Nat) (seen:List Bool):Prop where
 own:aX H' [(r,2,aU (l ++ dN ks)),(su,1,dH seen)]
 f1:dt H H' r
 f2:dt H H' su
 nd:ks.Nodup
 kl:∀ k∈ks,k < g.rules.length
 sl:seen.length=g.ak.length
 s1:∀ (n k:Nat) (R:bu),seen.getD n false=true->g.rules[k]?=some R->R.left=n->k∈ks
 s2:∀ (k:Nat) (R:bu),k∈ks->g.rules[k]?=some R->seen.getD R.left.toNat false=true
 cl:∀ x∈l ++ dN ks,ou g l x
 dn:∀ (j:Nat) (x:aB) (s:Int),j < i->(l ++ dN ks)[j]?=some x->bA g x=(s,true)->s < 0->seen.getD (-1 - s).toNat false=true
 il:i<=(l ++ dN ks).length
theorem RM.len {g:aj} {l:List aB} {H H':View} {i:Nat} {r b:V} {a:List Nat} {seen:List Bool} (h:RM g l H H' i r b a seen):a.length<=g.rules.length/\(l ++ dN a).length=l.length+a.length:=by
 refine⟨Bj h.nd h.kl,by simp[dN]⟩
def Y9 (g:aj) (l:List aB) (H:View) (m:Nat) (T:Env) (H':View):Prop:=∃ (i:Nat) (r su:V) (ks:List Nat) (seen:List Bool),m=l.length+g.rules.length - i/\RM g l H H' i r su ks seen/\T 2=.aI (ag g) 0/\T 5=r/\T 6=su/\T 7=gi i
theorem Lq (g:aj) (W:g.dP) (l:List aB) (hl:∀ x∈l,cB g x) (O:l.length<=10000) (u:V) (H:View) (ho:aV H u 2 (aU l)):au Tryz.prog 56 [.agg (ag g),u] H λr H'=>aV H' r 2 (aU (cK g l))/\dt H H' r:=by
 refine au.of mixed Cv ?_
 have b8:=W.rules
 have b9:=W.ak
 simp(disch:=omega)only[↓wr,seval,wq,x9,ag,encS]
 refine ax.dJ ((Oy l (by omega) u H ho).mono ?_)
 rintro r H1 ⟨o1,f1⟩
 simp(disch:=omega)only[↓wr,seval,wq,ag,encS]
 refine⟨⟨Zt _,by unfold aA;omega,by unfold aA;omega⟩,λX=>?_,λX q hq=>?_⟩
 .exact absurd (by have:=W.pM;omega) (show ¬ g.ak.length=0 by have:=W.pM;omega)
 have an:RM g l H (H1.set q (.arr 1 (List.replicate g.ak.length [gb false]))) 0 r (.sl q 0 g.ak.length 1) [] (List.replicate g.ak.length false):=by
  have e:List.replicate g.ak.length [gb false]=dH (List.replicate g.ak.length false):=by simp
  have b1:aX H1 [(r,2,aU l)]:=⟨λx B=>by simp at B;subst B;exact o1,by
   cases hr:owner r <;> simp[aaM,hr]⟩
  have lu:H q=.dead∨H q≠.dead:=by cases H q <;> simp
  have D:H q=.dead:=by
   rcases lu with h | h
   .exact h
   .have:=(f1 q h).1;rw[hq] at this;exact absurd this.symm h
  refine⟨?_,λid c=>?_,λid c=>?_,.nil,by simp,by simp,λn k R h=>?_,by simp,λx B=>.base (by simpa [dN] using B),λj x s h=>by omega,aaY _⟩
  .have M:=(b1.new hq 1 (List.replicate g.ak.length [gb false])).perm (.swap _ _ _)
   rw[aaq] at M
   rw[e] at M ⊢
   simpa [dN] using M
  .have P:id≠q:=by rintro rfl;exact c D
   exact⟨by simp only[View.set];rw[Zk P];exact(f1 id c).1,(f1 id c).2⟩
  .have P:id≠q:=by rintro rfl;exact c D
   exact⟨by simp only[View.set];rw[Zk P];exact(f1 id c).1,by simp[owner,Ne.symm P]⟩
  .simp only[Zi,aaO] at h
   split at h <;> simp at h
 generalize H1.set q (.arr 1 (List.replicate g.ak.length [gb false]))=H2 at an ⊢
 refine aR.intro (Y9 g l H) (l.length+g.rules.length) ⟨0,r,_,[],_,by omega,an,rfl,rfl,rfl,rfl⟩ ?_
 clear an o1 f1 hq
 rintro m T H' ⟨i,r,I,w,seen,rfl,d,t2,t5,t6,t7⟩
 obtain⟨ca,cc⟩:=d.len
 have b2:cT r=some (l ++ dN w).length:=by rw[d.own.head.len,bJ]
 simp(disch:=omega)only[↓wr,seval,wq,u9,t2,t5,t6,t7,b2]
 apply ah.dec<;>intro hc
 rotate_left
 ·
  have hi:i=(l ++ dN w).length:=by have:=d.il;omega
  simp(disch:=omega)only[↓wr,seval,wq,t5]
  refine ax.dJ ((L7 (l ++ dN w) (by omega) r H' d.own.head).mono ?_)
  rintro Q H3 ⟨k3,o3,e3⟩
  simp(disch:=omega)only[↓wr,seval,wq]
  have b3:cK g l=B9 (l ++ dN w):=IY W hl (EK _) (λx B=>d.cl x (so.1 B)) (λx B=>so.2 (by simp[B])) (λx B s k R h1 M N h4=>by
   obtain⟨j,hj,e⟩:=aaA.1 (so.1 B)
   have h5:=d.dn j x s (by omega) (by rw[Zj hj,e]) h1 M
   have h6:=d.s1 _ k R h5 N (by omega)
   exact so.2 (aaX _ (ZF.2 ⟨k,h6,rfl⟩)))
  rw[b3]
  refine⟨o3,λid c=>?_⟩
  obtain⟨q1,q2⟩:=d.f1 id c
  exact⟨by rw[k3 id q2,q1],by rw[e3];exact q2⟩
 have B:(l ++ dN w)[i]?=some ((l ++ dN w)[i]'(by omega)):=Zj (by omega)
 have a7:=Zs (show i < (l ++ dN w).length by omega)
 have cf:=d.dn
 generalize (l ++ dN w)[i]'(by omega)=x at B a7
 have a8:=d.cl x a7
 have aq:=a8.has hl
 have h1:=Lj g W x aq
 cases E:bA g x with
 | mk s bb =>
 have cg:=tE W aq E
 rw[E] at h1
 obtain⟨id,hu,c⟩:=d.own.head.sl (by rw[bJ];omega)
 simp only at hu c
 rw[bJ] at hu
 simp only[ag,encS,bE] at h1
 simp(disch:=omega)only[↓wr,seval,wq,t2,t5,t6,t7,hu,c,r7 B,ag,encS]
 refine⟨by omega,by rw[bJ];omega,?_⟩
 refine ax.pure h1 ?_
 have skip:(bb=true->s < 0->seen.getD (-1 - s).toNat false=true)->RM g l H H' (i+1) r I w seen:=λh =>
  ⟨d.own,d.f1,d.f2,d.nd,d.kl,d.sl,d.s1,d.s2,d.cl,λj y t hj G O X=>by
   rcases ZI j i with q | q
   .exact d.dn j y t q G O X
   .have:j=i:=by omega
    subst this
    rw[B] at G
    simp only[Zl] at G
    subst G
    rw[E] at O
    simp only[Zo] at O
    obtain⟨rfl,rfl⟩:=O
    exact h rfl X,by omega⟩
 cases bb with
 | false =>
  simp(disch:=omega)only[↓wr,seval,wq,t2,t5,t6,t7]
  exact⟨l.length+g.rules.length - (i+1),by omega,i+1,r,I,w,seen,rfl,skip (by simp),t2,by rw[<-hu];exact t5,t6,rfl⟩
 | true =>
 simp(disch:=omega)only[↓wr,seval,wq]
 apply ah.dec<;>intro X
 .simp(disch:=omega)only[↓wr,seval,wq,t2,t5,t6,t7]
  exact⟨l.length+g.rules.length - (i+1),by omega,i+1,r,I,w,seen,rfl,skip (λ_ h=>by omega),t2,by rw[<-hu];exact t5,t6,rfl⟩
 have hG:=om W aq E
 have bd:(-1 - s).toNat < g.ak.length:=by
  unfold fT at hG
  rw[Zk (by omega)] at hG
  simp at hG;omega
 obtain⟨J,z,K⟩:=d.own.tail.head.sl (by simp[d.sl];omega)
 simp only at z K
 rw[Zr,d.sl] at z
 have S:(-1 - s).toNat < seen.length:=by rw[d.sl];exact bd
 simp(disch:=omega)only[↓wr,seval,wq,t6,z,K,Sn S]
 refine⟨by omega,by simp[d.sl];omega,?_⟩
 apply ah.split<;>intro M
 .simp(disch:=omega)only[↓wr,seval,wq,t2,t5,t6,t7]
  exact⟨l.length+g.rules.length - (i+1),by omega,i+1,r,I,w,seen,rfl,skip (λ_ _=>M),t2,by rw[<-hu];exact t5,by rw[<-z];exact t6,rfl⟩
 obtain⟨n,O⟩:∃ n:Nat,-1 - s=(n:Int):=⟨(-1 - s).toNat,by omega⟩
 have bl:(-1 - s).toNat=n:=by omega
 rw[bl] at bd S M
 have b4:(dH seen).set n [gb true]=dH (seen.set n true):=by simp[aaR]
 simp(disch:=omega)only[↓wr,seval,wq,t2,t5,t6,t7,z,K,ag,encS,O,Sn S,b4]
 refine⟨by omega,by simp[d.sl];omega,?_⟩
 have ar:∀ m,(seen.set n true).getD m false=if n=m then true else seen.getD m false:=λm=>by
  rw[eS]
  by_cases e:n=m
  .rw[Zn ⟨e,S⟩,Zn e]
  .rw[Zk (λh=>e h.1),Zk e]
 have o2:aX (H'.set J (.arr 1 (dH (seen.set n true)))) [(r,2,aU (l ++ dN w)),(I,1,dH (seen.set n true))]:=by
  have N:=d.own.perm (.swap _ _ _)
  rw[z] at N ⊢
  exact(N.put (es':=dH (seen.set n true)) (by simp) (by simp[d.sl])).perm (.swap _ _ _)
 have L:∀ id,H id≠.dead->id≠J:=λid c e=>by
  have:=(d.f2 id c).2
  rw[z,e] at this
  exact this rfl
 have a1:dt H (H'.set J (.arr 1 (dH (seen.set n true)))) r:=λid c=>⟨by simp only[View.set];rw[Zk (L id c)];exact(d.f1 id c).1,(d.f1 id c).2⟩
 have a6:dt H (H'.set J (.arr 1 (dH (seen.set n true)))) I:=λid c=>⟨by simp only[View.set];rw[Zk (L id c)];exact(d.f2 id c).1,(d.f2 id c).2⟩
 generalize H'.set J (.arr 1 (dH (seen.set n true)))=H4 at o2 a1 a6 ⊢
 refine aR.up g.rules.length (λk T Y=>∃ (Q:V) (f:List Nat),f=w ++ (List.range k).filter (λ(q:Nat)=>decide ((ay g q).left=n))/\aX Y [(Q,2,aU (l ++ dN f)),(I,1,dH (seen.set n true))]/\dt H Y Q/\dt H Y I /\
  T 2=.aI (ag g) 0/\T 5=Q/\T 6=I/\T 7=gi i/\T 8=gi s/\T 51=.aD (g.rules.map aO)/\T 52=gi g.rules.length/\T 53=gi k) ⟨r,w,by simp,o2,a1,a6,t2,by rw[<-hu];exact t5,by rw[<-z];exact t6,t7,rfl,rfl,rfl,rfl⟩ ?_
 clear t2 t5 t6 t7 o2 a1 a6
 rintro k j T5 Y hk ⟨Q,f,F,o5,f5,g5,t2,t5,t6,t7,t8,t51,t52,t53⟩
 have bn:∀ q,q∈w->¬ (ay g q).left=n:=λq hq e=>by
  have hR:g.rules[q]?=some (ay g q):=by unfold ay;exact getD_some (d.kl q hq)
  have:=d.s2 q _ hq hR
  rw[e] at this
  simp only[ZK] at this
  rw[M] at this;simp at this
 have Z:f.Nodup:=by
  rw[F,aak]
  refine⟨d.nd,(List.nodup_range).filter _,λa ha b hb e=>?_⟩
  subst e
  exact bn a ha (by simpa using (aag.1 hb).2)
 simp(disch:=omega)only[↓wr,seval,wq,vg,t2,t5,t6,t7,t8,t51,t52,t53]
 apply ah.dec<;>intro b5
 .have hR:g.rules[k]?=some (ay g k):=by unfold ay;exact getD_some (by omega)
  have bq:∀ q∈f,q < g.rules.length:=λq hq=>by
   rw[F] at hq
   rcases ZN.1 hq with h | h
   .exact d.kl q h
   .have:=aap.1 (aag.1 h).1;omega
  have ch:=Bj Z bq
  have p:w ++ (List.range (k+1)).filter (λ(q:Nat)=>decide ((ay g q).left=n))=if (ay g k).left=n then f ++ [k] else f:=by
   rw[Z8,aaS,<-Z2,<-F]
   by_cases e:(ay g k).left=n <;> simp[e]
  generalize ay g k=R at hR p
  simp(disch:=omega)only[↓wr,seval,wq,t2,t5,t6,t7,t8,t51,t52,t53,Zm,hR,Zq,aO]
  intro q hq
  rw[set_set]
  have br:(Y.set q (.arr 3 [[gi R.left,encI R.right,gi R.prec]])) q=.arr 3 [[gi R.left,encI R.right,gi R.prec]]:=by simp[View.set]
  have D:∀ id,H id≠.dead->id≠q:=λid c e=>by
   have:=(f5 id c).1
   rw[e,hq] at this
   exact c (by rw[e];exact this.symm)
  have o6:=o5.fresh (o:=.arr 3 [[gi R.left,encI R.right,gi R.prec]]) hq
  have f6:dt H (Y.set q (.arr 3 [[gi R.left,encI R.right,gi R.prec]])) Q:=λid c=>⟨by simp only[View.set];rw[Zk (D id c)];exact(f5 id c).1,(f5 id c).2⟩
  have g6:dt H (Y.set q (.arr 3 [[gi R.left,encI R.right,gi R.prec]])) I:=λid c=>⟨by simp only[View.set];rw[Zk (D id c)];exact(g5 id c).1,(g5 id c).2⟩
  generalize Y.set q (.arr 3 [[gi R.left,encI R.right,gi R.prec]])=H6 at br o6 f6 g6
  clear o5 f5 g5 hq D
  simp(disch:=omega)only[↓wr,seval,wq,t2,t5,t6,t7,t8,br,O]
  refine⟨rfl,?_⟩
  apply ah.eq<;>intro he
  .simp(disch:=omega)only[↓wr,seval,wq,t2,t5,t6,t7,t8]
   intro q2 bs
   simp(disch:=omega)only[↓wr,seval,wq,bm]
   have C:∀ id,H id≠.dead->id≠q2:=λid c e=>by
    have:=(f6 id c).1
    rw[e,bs] at this
    exact c (by rw[e];exact this.symm)
   refine bL (o6.fresh bs) (by simp[aL]) (by unfold aA;rw[bJ];simp[dN];omega) (by unfold aA;rw[bJ];simp[dN];omega) ?_
   intro r3 H7 o7 l7
   simp(disch:=omega)only[↓wr,seval,wq,t2,t6,t7,t8,t51,t52,t53]
   rw[Zn he] at p
   have f7:∀ v,dt H H6 v->(∀ id,owner v=some id->owner Q≠some id/\owner r3≠some id)->dt H H7 v:=λv hv cj id c=>by
    obtain⟨e1,e2⟩:=hv id c
    obtain⟨k1,k2⟩:=l7 id (by simp only[View.set];rw[Zk (C id c),e1];exact c) (f6 id c).2
    refine⟨?_,e2⟩
    rw[k1]
    simp only[View.set]
    rw[Zk (C id c),e1]
   have f8:dt H H7 r3:=λid c=>by
    obtain⟨e1,e2⟩:=f6 id c
    obtain⟨k1,k2⟩:=l7 id (by simp only[View.set];rw[Zk (C id c),e1];exact c) e2
    refine⟨?_,k2⟩
    rw[k1]
    simp only[View.set]
    rw[Zk (C id c),e1]
   refine aE hk (by omega) ⟨r3,f ++ [k],p.symm,?_,f8,λid c=>⟨(f8 id c).1,(g6 id c).2⟩,t2,rfl,t6,t7,t8,t51,t52,rfl⟩
   have e1:aU (l ++ dN (f ++ [k]))=aU (l ++ dN f) ++ [[gi k,gi 0]]:=by simp[aU,dN,bE]
   rw[e1]
   exact o7
  .simp(disch:=omega)only[↓wr,seval,wq,t2,t5,t6,t7,t8,t51,t52,t53]
   rw[Zk he] at p
   exact aE hk (by omega) ⟨Q,f,p.symm,o6,f6,g6,t2,t5,t6,t7,t8,t51,t52,rfl⟩
 .have b7:k=g.rules.length:=by omega
  subst b7
  simp(disch:=omega)only[↓wr,seval,wq,t2,t5,t6,t7]
  have A:∀ q,q∈f↔q∈w∨(q < g.rules.length/\(ay g q).left=n):=λq=>by
   rw[F,ZN,aag,aap,ZA]
  have bx:∀ (q:Nat) (R:bu),g.rules[q]?=some R->ay g q=R:=λq R h=>by
   unfold ay
   rw[ZK,Zi,h];rfl
  have b0:∀ (j:Nat),j<=i->(l ++ dN f)[j]?=(l ++ dN w)[j]?:=λj hj=>by
   rw[F,dN,ZD,<-Z2]
   exact ZP (by simp only[dN] at hc;omega)
  refine⟨l.length+g.rules.length - (i+1),by omega,i+1,Q,I,f,seen.set n true,rfl,⟨o5,f5,g5,Z,λq hq=>?_,by rw[aa1];exact d.sl,λm q R N h4 h5=>?_,λq R N h4=>?_,λy G=>?_,λj y t hj G U X=>?_,?_⟩,t2,t5,t6,rfl⟩
  .rcases (A q).1 hq with h | h
   .exact d.kl q h
   .exact h.1
  .rw[ar] at N
   split at N
   .rename_i e
    subst e
    exact(A q).2 (.inr ⟨(Zy.1 h4).1,by rw[bx q R h4];exact h5⟩)
   .exact(A q).2 (.inl (d.s1 m q R N h4 h5))
  .rw[ar]
   rcases (A q).1 N with h | h
   .split
    .rfl
    .exact d.s2 q R h h4
   .rw[bx q R h4] at h
    rw[h.2,ZK,Zn rfl]
  .rcases ZN.1 G with h | h
   .exact d.cl y (aaT _ h)
   .obtain⟨q,hq,rfl⟩:=ZF.1 h
    rcases (A q).1 hq with h | h
    .exact d.cl _ (aaX _ (ZF.2 ⟨q,h,rfl⟩))
    .have hR:g.rules[q]?=some (ay g q):=by unfold ay;exact getD_some h.1
     exact .step a8 E (by omega) hR (by rw[h.2,O])
  .rw[b0 j (by omega)] at G
   rw[ar]
   rcases ZI j i with q | q
   .split
    .rfl
    .exact d.dn j y t q G U X
   .have:j=i:=by omega
    subst this
    rw[B] at G
    simp only[Zl] at G
    subst G
    rw[E] at U
    simp only[Zo,and_true] at U
    subst U
    rw[bl,Zn rfl]
  .rw[F,dN,ZD,<-Z2,aab]
   simp only[dN] at hc
   omega
theorem Ie {α:Type} (p:α->Bool):∀ (l:List α) (i:Int),0<=i->cR p l i = -1->∀ x∈l,p x=false
 | [],_,_,_=>by simp
 | x :: l,i,b,h=>by
  rw[cR] at h
  split at h
  .omega
  .rename_i hp
   intro y a
   rcases Zz.1 a with rfl | a
   .simpa using hp
   .exact Ie p l (i+1) (by omega) h y a
theorem GW {α:Type} (p:α->Bool):∀ (l:List α) (i:Int),0<=i->cR p l i = -1∨∃ (k:Nat) (x:α),cR p l i=i+k/\l[k]?=some x/\p x=true/\∀ y∈l.take k,p y=false
 | [],_,_=>.inl rfl
 | x :: l,i,e=>by
  rw[cR]
  split
  .rename_i hp
   exact .inr ⟨0,x,by simp,rfl,hp,by simp⟩
  .rename_i hp
   rcases GW p l (i+1) (by omega) with h | ⟨k,y,h1,b,c,d⟩
   .exact .inl h
   .refine .inr ⟨k+1,y,by rw[h1];push_cast;omega,by simpa using b,c,λz a=>?_⟩
    rw[aa7] at a
    rcases Zz.1 a with rfl | a
    .simpa using hp
    .exact d z a
def zT:SF:=⟨ae [ab [aQ 6 0],ab [aa 10 0,cQ 11 10,ao 12 4 11,ai 13 12,aa 14 1,aa 15 2,((some 16),.op (.bO 1 1 [(.val (.int .i64 0))] [(0,(.tmp 15))])),bh 17 28 [13,14,16],aa 9 17,dW 18 0 9,dW 19 1 9,aa 7 18,aa 8 19],ab [aa 20 7,aa 6 20],.ret],
 [.tmp 6],21⟩
theorem DI:aN Tryz.prog 119 []=some zT:=by kernel_rfl
def sV:SF:=⟨ae [ab [bz 3 false],.region false [⟨none,[aa 4 0,aG 5 .geq 4 0,aa 6 5]⟩,⟨(some (6,false)),[ai 7 1,cQ 8 7,ao 9 5 8,ai 10 9,aa 11 0,((some 12),.op (.arith .sub (.val (.val (.int .i64 (-1)))) (.tmp 11))),aH 13 1 10 12,ai 14 13,c6 15 14]⟩,⟨none,[cD 16 6 15,aa 3 16]⟩],.ret],
 [.tmp 3],17⟩
theorem xR:aN Tryz.prog 172 []=some sV:=by kernel_rfl
def vl:SF:=⟨ae [ab [cw 2 0,bz 4 false],ab [aa 5 1,((some 6),.op (.uS 172 [] [(.tmp 2)])),bh 7 91 [5,6],c6 8 7,aa 4 8],.ret],
 [.tmp 4],9⟩
theorem Az:aN Tryz.prog 121 [2]=some vl:=by kernel_rfl
def Ea:SC :=
 ae [ab [aS 8 .lss 7 6],bT 8 (.exit 0),.block 1 (ae [ab [aH 9 1 5 7,ai 10 9,aa 4 10],ab [aa 11 2,aa 12 4,bh 13 124 [12],aS 14 .or 11 13,aa 2 14]]),ab [aG 15 .add 7 1,aa 7 15]]
def KZ:SF:=⟨ae [ab [((some 2),.op (.er (.val (.val (.int .u32 0)))))],ae [ab [aa 5 0,aP 6 5,aQ 7 0],bU 0 Ea],ab [aa 16 2,aa 2 16],.ret],
 [.tmp 2],17⟩
theorem Lt:aN Tryz.prog 120 []=some KZ:=by kernel_rfl
theorem IU {H:View} {W:Nat} {f0 f1 f2 f3 f5 f6 f7 f8 f9:V} {a:List aM} (hW:H W=.arr 10 [[f0,f1,f2,f3,ba a,f5,f6,f7,f8,f9]]) (c:aJ a) (he:∀ s∈a,aJ s.aK/\∀ e∈s.aK,cp e.sym/\cp e.to) (st sym:Int) :
  au Tryz.prog 119 [.ptr W 0 0,gi st,gi sym] H λr H'=>r=gi (dY a st [sym]).1/\∀ id,H id≠.dead->H' id=H id:=by
 refine au.of mixed DI ?_
 simp(disch:=omega)only[↓wr,seval,wq,zT,hW]
 intro q hq
 have hw:=Vj a c he st [sym] (by unfold aJ;simp)
 refine ax.wE hw (by kernel_rfl) (.bt _ λi hi=>by
  match i,hi with
  | 0,_=>exact⟨_,rfl⟩
  | 1,_=>exact⟨_,rfl⟩) ⟨.tree (lg a),.tree (.val _),ep.U2 (l:=[sym]) (.inr ⟨q,rfl,by simp[View.set]⟩),trivial⟩ ?_
 simp(disch:=omega)only[↓wr,seval,wq]
 intro id b
 rw[Zk (λe=>b (by rw[e];exact hq))]
theorem QN (l:List Int) (hl:aJ l) (f:FuncId) (cap:List V) (p:Int->Bool) (H:View) (e:∀ x∈l,au Tryz.prog f (gi x :: cap) H λr H'=>r=gb (p x)/\H'=H) :
  au Tryz.prog 133 [encI l,.fn f [] cap] H λr H'=>r=gi (cR p l 0)/\H'=H:=by
 refine au.of mixed jq ?_
 unfold aJ at hl
 simp(disch:=omega)only[↓wr,seval,wq,gN,encI]
 refine aR.up l.length (λi T H'=>H=H'/\cR p (l.drop i) i=cR p l 0/\T 0=encI l/\T 1=.fn f [] cap/\T 7=gi l.length/\T 8=gi i) ⟨rfl,rfl,rfl,rfl,rfl,rfl⟩ ?_
 rintro i k T _ hk ⟨rfl,hi,a,h1,b,c⟩
 simp(disch:=omega)only[↓wr,seval,wq,gv,a,h1,b,c]
 apply ah.dec<;>intro g
 .have d:l[i]?=some (l[i]'(by omega)):=Zj (by omega)
  have hm:l[i]'(by omega)∈l:=Zs _
  rw[fw (show i < l.length by omega)] at hi
  generalize l[i]'(by omega)=x at d hm hi
  simp(disch:=omega)only[↓wr,seval,wq,a,h1,b,c,encI,Zm,d,Zq]
  refine ax.dJ ((e x hm).mono ?_)
  rintro r h ⟨rfl,rfl⟩
  simp only[cR] at hi
  simp(disch:=omega)only[↓wr,seval,wq]
  apply ah.split<;>intro hp
  .simp(disch:=omega)only[↓wr,seval,wq,a,h1,b,c]
   rw[<-hi,Zn hp]
  .simp(disch:=omega)only[↓wr,seval,wq,a,h1,b,c]
   refine aE hk (by omega) ⟨rfl,?_,a,h1,b,rfl⟩
   rw[Zk (by simp[hp])] at hi
   push_cast;exact hi
 .rw[ZQ (by omega)] at hi
  simp(disch:=omega)only[↓wr,seval,wq,a,h1,b,c]
  rw[<-hi];rfl
theorem JA (l:List Int) (hl:aJ l) (f:FuncId) (cap:List V) (p:Int->Bool) (H:View) (a:∀ x∈l,au Tryz.prog f (gi x :: cap) H λr H'=>r=gb (p x)/\H'=H) :
  au Tryz.prog 91 [encI l,.fn f [] cap] H λr H'=>r=gb (l.any p)/\H'=H:=by
 refine au.of mixed iM ?_
 simp(disch:=omega)only[↓wr,seval,wq,gf]
 refine ax.dJ ((QN l hl f cap p H a).mono ?_)
 rintro r b ⟨rfl,rfl⟩
 simp(disch:=omega)only[↓wr,seval,wq]
 rw[<-vc p l 0 (Int.le_refl _)]
theorem RL {H:View} {W:Nat} {f0 f1 f2 f3 f4 f6 f7 f8 f9:V} {null:List Bool} (hW:H W=.arr 10 [[f0,f1,f2,f3,f4,bP null,f6,f7,f8,f9]]) (s:Int) (hs:cp s/\(s < 0->-1 - s < null.length)) :
  au Tryz.prog 172 [gi s,.aI [.ptr W 0 0] 0] H λr H'=>r=gb (!(if 0<=s then false else null.getD (-1 - s).toNat false))/\H'=H:=by
 obtain⟨a,c⟩:=hs
 unfold cp at a
 refine au.of mixed xR ?_
 simp(disch:=omega)only[↓wr,seval,wq,sV]
 apply ah.dec<;>intro d
 .simp(disch:=omega)only[↓wr,seval,wq]
  rw[Zn d];rfl
 .have e:null[(-1 - s).toNat]?=some (null.getD (-1 - s).toNat false):=getD_some (by have:=c (by omega);omega)
  generalize null.getD (-1 - s).toNat false=b at e ⊢
  simp(disch:=omega)only[↓wr,seval,wq,hW,bP,Zm,e,Zq]
  rw[Zk d]
theorem TW {H:View} {W:Nat} {f0 f1 f2 f3 f4 f6 f7 f8 f9:V} {null:List Bool} (hW:H W=.arr 10 [[f0,f1,f2,f3,f4,bP null,f6,f7,f8,f9]]) (l:List Int) (hl:aJ l) (hs:∀ s∈l,cp s/\(s < 0->-1 - s < null.length)) :
  au Tryz.prog 121 [.ptr W 0 0,encI l] H λr H'=>r=gb (c7 l null false)/\H'=H:=by
 refine au.of mixed Az ?_
 simp(disch:=omega)only[↓wr,seval,wq,vl]
 refine ax.dJ ((JA l hl 172 [.aI [.ptr W 0 0] 0] (λs=>!(if 0<=s then false else null.getD (-1 - s).toNat false)) H (λs h=>RL hW s (hs s h))).mono ?_)
 rintro r a ⟨rfl,rfl⟩
 simp(disch:=omega)only[↓wr,seval,wq]
 rw[c7,List.not_any_eq_all_not]
 simp
theorem He (t:Int):az Tryz.prog 120 [encI [t]] (gw (dQ t)):=by
 refine az.val (by intro v a;simp at a;subst a;exact ew _) λH=>?_
 refine au.of mixed Lt ?_
 simp(disch:=omega)only[↓wr,seval,wq,KZ,encI]
 refine aR.up 1 (λi T H'=>T 2=gw (if i=0 then 0 else dQ t)/\T 5=encI [t]/\T 6=gi 1/\T 7=gi i) ⟨rfl,rfl,rfl,rfl⟩ ?_
 rintro i k T H' hk ⟨t2,t5,t6,t7⟩
 simp(disch:=omega)only[↓wr,seval,wq,Ea,t2,t5,t6,t7]
 apply ah.dec<;>intro b
 .have hi:i=0:=by omega
  subst hi
  simp(disch:=omega)only[↓wr,seval,wq,t2,t5,t6,t7,encI,show ([[gi t]]:List (List V))[0]?=some [gi t] from rfl]
  refine ax.pure (GK t) ?_
  simp(disch:=omega)only[↓wr,↓reduceIte,wq,Nat.reduceEqDiff,Nat.reduceAdd,Nat.reduceLT,Nat.reduceLeDiff,Int.reduceNeg,Int.reduceToNat,reduceCtorEq,t2,t5,t6,t7,vi]
  exact aE hk (by omega) ⟨by show gw ((0:BV) ||| dQ t)=gw (dQ t);rw[show ((0:BV) ||| dQ t)=dQ t by simp],t5,t6,rfl⟩
 .have hi:i≠0:=by omega
  rw[Zk hi] at t2
  simp(disch:=omega)only[↓wr,seval,wq,t2]
section
variable {κ:Type} [BEq κ] [LawfulBEq κ] {kv:κ->V} {P:Program} {T:Env} {H:View} {kt et t ty:TypeId}
theorem Yv {K:V->View->Prop} {w:cO (T,H,K)} {x i y:Operand} {id c:Nat} {m:bW κ} {k:κ} {v:V} (hm:dK P t=some (kt,et)) (hk:Jn P kt kv)
  (d:ev T x=.mp id) (hi:ev T i=kv k) (e:ev T y=v) (hH:H id=.map (bQ kv m) c) (f:im m c)
  (h:∀ g,im (bN k v c m) g->K .any (H.set id (.map (bQ kv (bN k v c m)) g))):j5 P (.mapUpdate t x i y) ty T H K w:=by
 intro n _
 have a:=hk.find k false m
 have b:=oy (kv:=kv) k m
 cases l:iB k m with
 | some j =>
  rw[l] at b a
  obtain⟨z,h1,r,s,o,p,q⟩:=b
  refine⟨.any,.fK id (.map ((bQ kv m).set j (kv k,v,z.2.2)) c),[id],?_,?_⟩
  .simp only[sI,cx,oper,fX,hm,d,hi,e,hH,a,p,hk.same k,if_true]
  .rw[(q v c).1];exact h c (f.TZ o v c)
 | none =>
  rw[l] at b a
  refine⟨.any,.fK id (.map (bQ kv m ++ [(kv k,v,c)]) (c+1)),[id],?_,?_⟩
  .simp only[sI,cx,oper,fX,hm,d,hi,e,hH,a]
  .rw[(b.2.2 v c).1];exact h (c+1) (f.put k v)
end
def fu (x:Int × Int):V:=.agg [.val (.int .i64 x.1),.val (.int .i64 x.2)]
def ri (x:Int × Int):Value:=.agg #[.int .i64 x.1,.int .i64 x.2]
theorem Gz (x:Int × Int):dx (fu x)=some (ri x):=rfl
theorem Io:∀ m:bW (Int × Int),iY (bQ fu m)=some (m.map λx=>{ key:=ri x.1,val:=.nilFunc,born:=x.2.2 })
 | []=>rfl
 | x :: r=>by
  have:=Io r
  simp only[bQ] at this
  simp[bQ,iY,Gz,this]
structure TT (P:Program) (kt:TypeId):Prop where
 ty:∃ f0 f1:Field,P.underlying kt=some (.struct #[f0,f1])/\f0.name≠ "_" /\ f1.name≠ "_" /\ P.underlying f0.type=some (.int .i64)/\P.underlying f1.type=some (.int .i64)/\f0.offset=0/\f1.offset=1
 held:P.stoodInHeld kt=false
theorem Cl {P:Program} {kt:TypeId} (h:TT P kt):Jn P kt fu where
 same:=λk=>by simp[sameKey,Gz,ri,Instr.sameBits]
 find:=by
  obtain⟨f0,f1,hu,q,s,f,g,o0,l⟩:=h.ty
  have heq:∀ a b:Int × Int,bM P (Op.equal kt (ri a) (ri b))=some (a == b):=by
   intro a b
   have t:gg P 9998 #[.int .i64 a.1,.int .i64 a.2] #[.int .i64 b.1,.int .i64 b.2] [f0,f1] ((a.1 == b.1) && ((a.2 == b.2) && true)) :=
    .int f0 _ _ .i64 _ _ q f (by rw[o0];rfl) (by rw[o0];rfl) (.int f1 _ _ .i64 _ _ s g (by rw[l];rfl) (by rw[l];rfl) .nil)
   rw[ri,ri,uL hu h.held t]
   congr 1
   rw[aan]
   simp only[Zw,aaz,and_true]
   cases a;cases b;simp
  have c:∀ (k:Int × Int) (m:bW (Int × Int)) (i:Nat),bM P (Instr.findAsking kt (ri k) (m.map λx=>{ key:=ri x.1,val:=.nilFunc,born:=x.2.2 }) i)=some ((iB k m).map λj=>(i+j,.nilFunc)):=by
   intro k m
   induction m with
   | nil=>intro i;rfl
   | cons x r u =>
    intro i
    simp only[ZJ,Instr.findAsking,bC,heq,aaa,iB]
    cases hk:k == x.1 with
    | true=>simp[A3]
    | false =>
     simp only[ZM,if_false,u (i+1),Option.map_map]
     congr 2
     funext j
     simp only[Function.comp]
     congr 1
     omega
  have hint:∀ (e:Bool) (n:TypeId) (v:Value),P.underlying n=some (.int .i64)->bM P (Instr.checkKey e 9999 n v)=some ():=λe n v o=>zD o trivial e 9998 v
  have d:∀ (k:Int × Int) (e:Bool),bM P (Instr.checkKey e 10000 kt (ri k))=some ():=by
   intro k e
   unfold Instr.checkKey ri
   rw[bC,eP hu,aaa]
   have w:=kj (P:=P) f (.inr ⟨_,rfl⟩) #[.int .i64 k.1,.int .i64 k.2] f0.offset (v:=.int .i64 k.1) (by rw[o0];rfl)
   have y:=kj (P:=P) g (.inr ⟨_,rfl⟩) #[.int .i64 k.1,.int .i64 k.2] f1.offset (v:=.int .i64 k.2) (by rw[l];rfl)
   simp only[<-Array.forIn_toList,List.forIn_cons,List.forIn_nil,Zn q,Zn s,bC,w,y,hint e _ _ f,hint e _ _ g,aaa,A3]
  intro k e m
  have p:bM P (underlying kt)=some _:=eP hu
  simp only[oc,Gz,Io,bC,d,aaa]
  have:bM P (Instr.findKey kt (ri k) (m.map λx=>{ key:=ri x.1,val:=.nilFunc,born:=x.2.2 }))=some ((iB k m).map λj=>(0+j,.nilFunc)):=by
   unfold Instr.findKey
   rw[bC,p,aaa]
   cases m with
   | nil=>rfl
   | cons x r=>exact c k (x :: r) 0
  rw[this]
  cases iB k m with
  | none=>rfl
  | some j=>simp
def xt:SC :=
 ae [ab [aS 29 .lss 28 27],bT 29 (.exit 2),.block 3 (ae [ab [aH 30 2 26 28,aT 31 2 30,((some 9),.op (.alloc [(.val (.int .i64 0)),(.val (.int .i64 0))])),bK 2 9 31],ab [ao 32 0 9,ai 33 32,aG 34 .lss 33 0],bc 34 (ae [ab [aa 35 6,ao 36 0 9,ai 37 36,((some 38),.op (.arith .sub (.val (.val (.int .i64 (-1)))) (.tmp 37))),((some 39),.op (.build [(.val (.int .i64 0)),(.val (.int .i64 0))] [(0,1,(.tmp 35)),(1,1,(.tmp 38))])),((some 10),.op (.alloc [(.val (.int .i64 0)),(.val (.int .i64 0))])),bK 2 10 39],ab [aa 40 5,cQ 41 40,ao 42 6 41,ai 43 42,aT 44 2 10,aa 45 5,cQ 46 45,ao 47 7 46,ai 48 47,aP 49 48,(none,.op (.old (.mapUpdate 110 (.tmp 43) (.tmp 44) (.tmp 49)) 0))],ab [aa 50 5,aa 51 5,cQ 52 51,ao 53 7 52,ai 54 53,aT 55 2 10,((some 56),.op (.bO 1 2 [(.val (.int .i64 0)),(.val (.int .i64 0))] [(0,(.tmp 55))])),eE 57 2 16 54 56,cQ 58 50,ao 59 7 58,bK 1 59 57]])]),ab [aG 60 .add 28 1,aa 28 60]]
def xx:SC :=
 ae [ab [aS 21 .lss 20 19],bT 21 (.exit 0),.block 1 (ae [ab [aa 22 20,aH 23 2 18 20,aT 24 2 23,((some 7),.op (.alloc [(.emp 1),(.emp 1)])),aa 6 22,bK 2 7 24],ab [ao 25 1 7,ai 26 25,aP 27 26,aQ 28 0],bU 2 xt]),ab [aG 61 .add 20 1,aa 20 61]]
def BR:SF:=⟨ae [ab [cw 2 0,((some 4),.op (.er (.val (.val (.pointer none)))))],.region true [⟨none,[aT 11 4 2,aa 12 1,aT 13 4 2,bh 14 118 [13],((some 15),.op (.pA)),((some 16),.op (.build [(.emp 1),(.emp 1),(.emp 1),(.val (.int .i64 0)),(.emp 1),(.emp 1),(.val (.map none)),(.emp 1),(.emp 1),(.emp 1)] [(0,4,(.tmp 11)),(4,1,(.tmp 12)),(5,1,(.tmp 14)),(6,1,(.tmp 15))])),((some 17),.op (.box (.tmp 16))),aa 5 17]⟩],ae [ab [aa 18 1,aP 19 18,aQ 20 0],bU 0 xx],ab [aa 62 5,aa 63 5,cQ 64 63,ao 65 7 64,ai 66 65,aP 67 66,((some 68),.op (.make 1 4 [(.val (.int .u32 0))] (.tmp 67) (.tmp 67))),cQ 69 62,ao 70 8 69,bK 1 70 68],ab [aa 71 5,aa 72 5,cQ 73 72,ao 74 7 73,ai 75 74,aP 76 75,((some 77),.op (.make 1 24 [(.emp 1)] (.tmp 76) (.tmp 76))),cQ 78 71,ao 79 9 78,bK 1 79 77],ab [aa 80 5,aa 4 80],.ret],
 [.tmp 4],81⟩
theorem D5:aN Tryz.prog 72 [2]=some BR:=by kernel_rfl
theorem yZ:TT Tryz.prog 116 :=
 ⟨⟨⟨ "state",3,0,false,"","gerund/look",0⟩,⟨ "non",3,1,false,"","gerund/look",8⟩,by kernel_rfl,by decide,by decide,Tryz.underlying3,Tryz.underlying3,rfl,rfl⟩,by kernel_rfl⟩
def j9 (i:Nat) (l:List cn):List (Int × Int):=(l.filter λe=>decide (e.sym < 0)).map λe=>((i:Int),-1 - e.sym)
def lL (a:List aM) (n:Nat):List (Int × Int):=(List.range n).flatMap λi=>j9 i (a.getD i bg).aK
abbrev bk (a:List aM):List (Int × Int):=lL a a.length
theorem zC (a:List aM) (n:Nat):lL a (n+1)=lL a n ++ j9 n (a.getD n bg).aK:=by
 unfold lL
 rw[Z8,List.flatMap_append];simp
theorem Ue {i j:Nat} {l:List cn} {e:cn} (h:l[j]?=some e):j9 i (l.take (j+1))=if e.sym < 0 then j9 i (l.take j) ++ [((i:Int),-1 - e.sym)] else j9 i (l.take j):=by
 unfold j9
 rw[wA h]
 by_cases he:e.sym < 0
 .simp[he]
 .simp[he]
theorem VP {a:List aM} : ∀ {n m:Nat},n<=m->lL a n <+: lL a m:=λ{n m} h=>by
 induction h with
 | refl=>exact List.prefix_refl _
 | step _ b=>rw[zC];exact b.trans (List.prefix_append _ _)
theorem NL (i:Nat) (l:List cn):(j9 i l).length<=l.length:=by
 unfold j9;rw[Zr];exact aac _ _
theorem mP {a:List aM} (h:∀ s∈a,s.aK.length<=40):∀ n,(lL a n).length<=40 * n
 | 0=>by simp[lL]
 | n+1=>by
  have b:=mP h n
  rw[zC,aab]
  have h1:=NL n (a.getD n bg).aK
  have c:(a.getD n bg).aK.length<=40:=by
   rcases ZI n a.length with q | q
   .exact h _ (Zp (getD_some q))
   .rw[Zi,ZT q];simp[bg]
  omega
abbrev nY (ws:List (Int × Int)):List (List V):=ws.map λx=>[gi x.1,gi x.2]
def KL (ws:List (Int × Int)) (M:bW (Int × Int)):Prop:=∀ (k:Nat) (x:Int × Int),ws[k]?=some x->getM M x=some (gi k)
theorem KL.put {ws:List (Int × Int)} {M:bW (Int × Int)} (h:KL ws M) {x:Int × Int} (d:x ∉ ws) (c:Nat):KL (ws ++ [x]) (bN x (gi ws.length) c M):=λk y a=>by
 rw[rz]
 by_cases hk:k < ws.length
 .rw[ZP hk] at a
  have b:(y == x)=false:=beq_eq_false_iff_ne.2 λe=>d (e ▸ Zp a)
  rw[b]
  exact h k y a
 .rw[Z3 (by omega)] at a
  have:k - ws.length=0:=by
   rcases Nat.eq_zero_or_pos (k - ws.length) with q | q
   .exact q
   .rw[ZT (by simp;omega)] at a;simp at a
  rw[this] at a
  simp at a
  subst a
  rw[aaF,Zn rfl,show k=ws.length by omega]
abbrev jy (A:List (V × List Nat)):List ct:=A.map λx=>(x.1,1,ga x.2)
structure dd (g:aj) (a:List aM) (H:View) (W qn cM:Nat) (M:bW (Int × Int)) (uw:V) (s e:Nat) (ws:List (Int × Int)) (Sl:List BV) (A:List (V × List Nat)) (L:List ct):Prop where
 own:aX H ((.sl W 0 1 10,10,[[.aD (g.af.map bS),.aD (g.ak.map λs=>[gs s]),.aD (g.rules.map aO),gi g.start,ba a,bP (av g false),.mp qn,uw,.sl s 0 ws.length 1,.sl e 0 ws.length 1]]) :: (uw,2,nY ws) :: (.sl s 0 ws.length 1,1,bV Sl) :: (.sl e 0 ws.length 1,1,aZ A) :: (jy A ++ L))
 mp:H qn=.map (bQ fu M) cM
 bo:im M cM
 num:KL ws M
 sl:Sl.length=ws.length
 al:A.length=ws.length
def Nd (g:aj) (a:List aM) (H:View) (W qn:Nat) (ws:List (Int × Int)):Prop:=∃ (uw:V) (cM:Nat) (M:bW (Int × Int)),
 aX H [(.sl W 0 1 10,10,[[.aD (g.af.map bS),.aD (g.ak.map λs=>[gs s]),.aD (g.rules.map aO),gi g.start,ba a,bP (av g false),.mp qn,uw,.emp 1,.emp 1]]),(uw,2,nY ws)]/\H qn=.map (bQ fu M) cM/\im M cM/\KL ws M
theorem Nd.fresh {g:aj} {a:List aM} {H:View} {W qn:Nat} {ws:List (Int × Int)} (h:Nd g a H W qn ws) {q:Nat} (hq:H q=.dead) {o:cU} : Nd g a (H.set q o) W qn ws:=by
 obtain⟨uw,cM,M,h1,b,c,d⟩:=h
 refine⟨uw,cM,M,h1.fresh hq,?_,c,d⟩
 simp only[View.set];rw[Zk (λe=>by rw[e,hq] at b;simp at b)];exact b
theorem aX.TX {H:View} {L:List ct} (h:aX H L):∀ n:Nat,aX H (L ++ jy (List.replicate n (.emp 1,[])))
 | 0=>by simpa using h
 | n+1=>by
  have a:=(aX.TX h n).emp (k:=1) (sz:=1)
  rw[List.replicate_succ,jy,ZJ]
  exact a.perm ZY.symm
theorem Vf (g:aj) (hg:g.Ok) (b0:g.Small) (a:List aM) (ha:a.length<=300) (he:∀ s∈a,s.aK.length<=40/\∀ e∈s.aK,-1000<=e.sym/\e.sym<=1000) (b1:(bk a).Nodup) (h1:1<=(bk a).length) (H:View) :
  au Tryz.prog 72 [.agg (ag g),ba a] H λr H'=>∃ (W qn cM:Nat) (M:bW (Int × Int)) (uw:V) (s e:Nat),r=.ptr W 0 0/\dd g a H' W qn cM M uw s e (bk a) (List.replicate (bk a).length 0) (List.replicate (bk a).length (.emp 1,[])) []:=by
 refine au.of mixed D5 ?_
 have an:=(AZ g hg b0).pure
 have hlen:=mP (λs h=>(he s h).1)
 simp only[ag,encS] at an
 simp(disch:=omega)only[↓wr,seval,wq,BR,ag,encS]
 refine ax.pure an ?_
 simp(disch:=omega)only[↓wr,seval,wq,ba,bP]
 intro qn aq W hW
 have D:W≠qn:=λe=>by rw[Zn e] at hW;simp at hW
 rw[Zk D] at hW
 have p:Nd g a ((H.set qn (.map [] 0)).set W (.arr 10 [[.aD (g.af.map bS),.aD (g.ak.map λs=>[gs s]),.aD (g.rules.map aO),gi g.start,ba a,bP (av g false),.mp qn,.emp 1,.emp 1,.emp 1]])) W qn (lL a 0):=by
  refine⟨.emp 1,0,[],?_,by simp[View.set,Ne.symm D,bQ],⟨by simp,by simp⟩,λk x h=>by simp[lL] at h⟩
  exact((aX.nil.emp (k:=1) (sz:=2)).fresh aq).new (n:=W) (by simp[View.set,D,hW]) 10 [[.aD (g.af.map bS),.aD (g.ak.map λs=>[gs s]),.aD (g.rules.map aO),gi g.start,ba a,bP (av g false),.mp qn,.emp 1,.emp 1,.emp 1]]
 refine aR.up a.length (λi T H'=>Nd g a H' W qn (lL a i)/\T 5=.ptr W 0 0/\T 18=ba a/\T 19=gi a.length/\T 20=gi i) ⟨p,rfl,rfl,rfl,rfl⟩ ?_
 clear p hW aq D
 rintro i k T H' hk ⟨hI,t5,t18,t19,t20⟩
 simp(disch:=omega)only[↓wr,seval,wq,xx,t5,t18,t19,t20]
 apply ah.dec<;>intro hc
 rotate_left
 .have b2:i=a.length:=by omega
  subst b2
  obtain⟨uw,cM,M,hO,d,E,F⟩:=hI
  have w:=hO.is 0 rfl (by simp)
  have G:cT uw=some (bk a).length:=by rw[hO.tail.head.len,Zr]
  have ca:(bk a).length<=40 * a.length:=hlen a.length
  have bx:=hO.tail.head.cells
  have b3:=hO.tail.head.fj
  have I:qn≠W:=λe=>by rw[e,w] at d;simp at d
  have b4:∀ q,H' q=.dead->W≠q:=λq hq e=>by rw[e,hq] at w;simp at w
  simp(disch:=omega)only[↓wr,seval,wq,t5,w,G]
  refine⟨⟨by omega,by unfold aA;omega,by unfold aA;omega⟩,λh0=>by omega,λ_ s hs=>?_⟩
  have w1:=b4 s hs
  simp(disch:=omega)only[↓wr,seval,wq,t5,w,G,w1]
  refine⟨⟨by omega,by unfold aA;omega,by unfold aA;omega⟩,λh0=>by omega,λ_ e t=>?_⟩
  obtain⟨n1,t⟩:=jo t
  obtain⟨n2,t⟩:=jo t
  simp(disch:=omega)only[↓wr,seval,wq,t5,Ne.symm n1]
  have o1:=hO.new hs 1 (List.replicate (bk a).length [V.val (.int .u32 0)])
  have o2:=(o1.perm (.swap _ _ _)).put (es':=[[.aD (g.af.map bS),.aD (g.ak.map λs=>[gs s]),.aD (g.rules.map aO),gi g.start,ba a,bP (av g false),.mp qn,uw,.sl s 0 (bk a).length 1,.emp 1]]) rfl rfl
  have o3:=o2.new (n:=e) (by simp only[View.set];rw[Zk n1,Zk n2];exact t) 1 (List.replicate (bk a).length [.emp 1])
  have o4:=(o3.perm (.swap _ _ _)).put (es':=[[.aD (g.af.map bS),.aD (g.ak.map λs=>[gs s]),.aD (g.rules.map aO),gi g.start,ba a,bP (av g false),.mp qn,uw,.sl s 0 (bk a).length 1,.sl e 0 (bk a).length 1]]) rfl rfl
  have o5:=(o4.perm (.cons _ (List.reverse_perm _).symm)).TX (bk a).length
  have e1:List.replicate (bk a).length [V.val (.int .u32 0)]=bV (List.replicate (bk a).length 0#32):=by simp
  have e2:List.replicate (bk a).length [V.emp 1]=aZ (List.replicate (bk a).length ((V.emp 1,[]):V × List Nat)):=by simp[aZ]
  simp only[aaq,List.reverse_cons,List.reverse_nil,aar,Z4] at o5
  refine⟨W,qn,cM,M,uw,s,e,rfl,?_,?_,E,F,by simp,by simp⟩
  .rw[<-e1,<-e2,aav];exact o5
  .simp only[View.set]
   rw[Zk I,Zk (λh=>by rw[h,t] at d;simp at d),Zk I,Zk (λh=>by rw[h,hs] at d;simp at d)]
   exact d
 have hx:a[i]?=some (a.getD i bg):=getD_some (by omega)
 have l:=zC a i
 have z:=VP (a:=a) (n:=i+1) (m:=a.length) (by omega)
 rw[l] at z
 generalize a.getD i bg=x at hx l z
 obtain⟨cc,b5⟩:=he x (Zp hx)
 simp(disch:=omega)only[↓wr,seval,wq,t5,t18,t19,t20,ba,Zm,hx,Zq,dy]
 intro q1 ar
 rw[set_set]
 have U:=hI.fresh ar (o:=.arr 2 [[.aD (aU x.bf),.aD (fc x.aK)]])
 generalize H'.set q1 (.arr 2 [[.aD (aU x.bf),.aD (fc x.aK)]])=H1 at U ⊢
 refine aR.up x.aK.length (λj T H'=>Nd g a H' W qn (lL a i ++ j9 i (x.aK.take j))/\T 5=.ptr W 0 0/\T 6=gi i/\T 18=ba a/\T 19=gi a.length/\T 20=gi i/\T 26=.aD (fc x.aK)/\T 27=gi x.aK.length/\T 28=gi j) ⟨by simpa [j9] using U,t5,rfl,t18,t19,t20,rfl,by show gi ((fc x.aK).length:Int)=_;simp[fc],rfl⟩ ?_
 clear t5 t18 t19 t20 hI U ar
 rintro j m T H2 a1 ⟨A,t5,t6,t18,t19,t20,t26,t27,t28⟩
 simp(disch:=omega)only[↓wr,seval,wq,xt,t5,t6,t26,t27,t28]
 apply ah.dec<;>intro b7
 rotate_left
 .simp(disch:=omega)only[↓wr,seval,wq,t5,t18,t19,t20]
  rw[Zx (by omega),<-l] at A
  exact aE hk (by omega) ⟨A,t5,t18,t19,rfl⟩
 have hy:x.aK[j]?=some (x.aK[j]'(by omega)):=Zj (by omega)
 have a6:=Zs (show j < x.aK.length by omega)
 generalize x.aK[j]'(by omega)=y at hy a6
 have cf:=b5 y a6
 have u:=Ue (i:=i) hy
 simp(disch:=omega)only[↓wr,seval,wq,t5,t6,t18,t19,t20,t26,t27,t28,fc,Zm,hy,Zq,iX]
 intro q2 X
 apply ah.dec<;>intro B
 rotate_left
 .simp(disch:=omega)only[↓wr,seval,wq,t5,t6,t18,t19,t20,t26,t27,t28]
  rw[set_set]
  rw[Zk B] at u
  exact aE a1 (by omega) ⟨by rw[u];exact A.fresh X,t5,t6,t18,t19,t20,t26,t27,rfl⟩
 rw[Zn B] at u
 rw[set_set]
 have a7:=A.fresh X (o:=.arr 2 [[gi y.sym,gi y.to]])
 have C:(H2.set q2 (.arr 2 [[gi y.sym,gi y.to]])) q2=.arr 2 [[gi y.sym,gi y.to]]:=by simp[View.set]
 generalize H2.set q2 (.arr 2 [[gi y.sym,gi y.to]])=H3 at a7 C ⊢
 clear A X
 simp(disch:=omega)only[↓wr,seval,wq,t5,t6,C]
 intro Q J
 obtain⟨uw,cM,M,hO,d,E,F⟩:=a7
 have K:=hO.is 0 rfl (by simp)
 have R:W≠Q:=λe=>by rw[e,J] at K;simp at K
 have f:qn≠Q:=λe=>by rw[e,J] at d;simp at d
 have G:cT uw=some (lL a i ++ j9 i (x.aK.take j)).length:=by rw[hO.tail.head.len,Zr]
 have cg:=hlen i
 have a8:=NL i (x.aK.take j)
 rw[Z6] at a8
 have bb:((i:Int),-1 - y.sym) ∉ lL a i ++ j9 i (x.aK.take j):=by
  have h2:(lL a i ++ j9 i (x.aK.take (j+1))).Nodup:=by
   have h3:j9 i (x.aK.take (j+1)) <+: j9 i x.aK:=by
    unfold j9
    refine List.IsPrefix.map _ (List.IsPrefix.filter _ (List.take_prefix _ _))
   obtain⟨r,hr⟩:=h3
   have h4:=z.sublist.nodup b1
   rw[<-hr,<-Z2,aak] at h4
   exact h4.1
  rw[u,<-Z2,aak] at h2
  exact λh=>h2.2.2 _ h _ (by simp) rfl
 have bd:lL a i ++ j9 i (x.aK.take (j+1))=(lL a i ++ j9 i (x.aK.take j)) ++ [((i:Int),-1 - y.sym)]:=by rw[u,Z2]
 have ch:(lL a i ++ j9 i (x.aK.take j)).length<=20000:=by rw[aab];omega
 clear u
 generalize lL a i ++ j9 i (x.aK.take j)=ws at *
 simp(disch:=omega)only[↓wr,seval,wq,t5,t6,R,f,K,G]
 have b8:dK Tryz.prog 110=some (116,3):=by kernel_rfl
 refine Yv (kv:=fu) (kt:=116) (et:=3) (id:=qn) (c:=cM) (m:=M) (k:=((i:Int),-1 - y.sym)) (v:=gi (ws.length:Int)) b8 (Cl yZ) (by first | rfl | simp(disch:=omega)only[↓wr,seval,wq]) (by first | rfl | (simp(disch:=omega)only[↓wr,seval,wq];rfl)) (by first | rfl | simp(disch:=omega)only[↓wr,seval,wq]) (by show (View.set (View.set H3 Q _) Q _) qn=_;simp only[View.set];rw[Zk f,Zk f];exact d) E λY bl=>?_
 rw[set_set]
 have L:=(hO.fresh J (o:=.arr 2 [[gi (i:Int),gi (-1 - y.sym)]])).xw (b:=qn) (c:=cM) (es:=bQ fu M) (by simp only[View.set];rw[Zk f];exact d) (o:=.map (bQ fu (bN ((i:Int),-1 - y.sym) (gi (ws.length:Int)) cM M)) Y)
 have N:((H3.set Q (.arr 2 [[gi (i:Int),gi (-1 - y.sym)]])).set qn (.map (bQ fu (bN ((i:Int),-1 - y.sym) (gi (ws.length:Int)) cM M)) Y)) qn=.map (bQ fu (bN ((i:Int),-1 - y.sym) (gi (ws.length:Int)) cM M)) Y:=by simp[View.set]
 have bn:((H3.set Q (.arr 2 [[gi (i:Int),gi (-1 - y.sym)]])).set qn (.map (bQ fu (bN ((i:Int),-1 - y.sym) (gi (ws.length:Int)) cM M)) Y)) Q=.arr 2 [[gi (i:Int),gi (-1 - y.sym)]]:=by
  simp only[View.set];rw[Zk (Ne.symm f)];simp
 have S:=F.put bb cM
 generalize ((H3.set Q (.arr 2 [[gi (i:Int),gi (-1 - y.sym)]])).set qn (.map (bQ fu (bN ((i:Int),-1 - y.sym) (gi (ws.length:Int)) cM M)) Y))=H5 at L N bn ⊢
 generalize bN ((i:Int),-1 - y.sym) (gi (ws.length:Int)) cM M=M5 at bl N S
 clear hO d E F K J C R f
 have b9:=L.is 0 rfl (by simp)
 simp(disch:=omega)only[↓wr,seval,wq,t5,b9,bn]
 intro q4 O
 simp(disch:=omega)only[↓wr,seval,wq,bm]
 refine bL ((L.perm (.swap _ _ _)).fresh O) (by simp[aL]) (by unfold aA;simp;omega) (by unfold aA;simp;omega) ?_
 intro bq H6 P l6
 have br:=P.is 1 rfl (by simp)
 have Z:=l6.map (((L.perm (.swap _ _ _)).fresh O).head) (b:=qn) (c:=Y) (es:=bQ fu M5) (by simp only[View.set];rw[Zk (λe=>by rw[<-e,N] at O;simp at O)];exact N)
 have I:qn≠W:=λe=>by rw[e,br] at Z;simp at Z
 simp(disch:=omega)only[↓wr,seval,wq,t5,t6,t18,t19,t20,t26,t27,t28,br,P.head.cells,P.head.fj]
 have bs:=(P.perm (.swap _ _ _)).put (es':=[[.aD (g.af.map bS),.aD (g.ak.map λs=>[gs s]),.aD (g.rules.map aO),gi g.start,ba a,bP (av g false),.mp qn,bq,.emp 1,.emp 1]]) rfl rfl
 have e:nY ws ++ [[gi (i:Int),gi (-1 - y.sym)]]=nY (ws ++ [((i:Int),-1 - y.sym)]):=by simp
 rw[e] at bs
 refine aE a1 (by omega) ⟨?_,t5,t6,t18,t19,t20,t26,t27,rfl⟩
 rw[bd]
 exact⟨bq,Y,M5,bs,by simp only[View.set];rw[Zk I];exact Z,bl,S⟩
end Gv

/-
  Part 19 of the proof: what the machine does and what the functions answer.
  Conditions: those that each lemma names.
-/
import Derived.Shelf.Slices.Delete
import Derived.Test.YtiophifnkakjgaaGreatSGzC5R
set_option linter.unusedSimpArgs false
set_option linter.unusedVariables false
set_option maxRecDepth 100000
set_option maxHeartbeats 20000000
namespace Gv
open Go Go.Proofs
open Go Go.Lib Go.Proofs Go.Shelf Go.RowKit
theorem MM {P:Program} {ρ:Ren} (L:Lays2.n21 P ρ) (b off n c i vb voff m vc:Nat) (vs:List Value) (w W0:World) (hi:i<n) (hm:0<m) (hroom:n+m<=c) (hc63:n+m<=9223372036854775807) (hvb:vb≠b)
  (hvl:vs.length=m) (hsp:∀j,j<n+m->(w.cell? ⟨b,off+j,none⟩).isSome=true) (hfz:∀j,j<n+m->w.frozen? ⟨b,off+j,none⟩=false)
  (hvs:∀j v,vs[j]?=some v->w.cell? ⟨vb,voff+j,none⟩=some v) (h1v:∀v∈vs,v.oneCell'=true)
  (hov:∀lb cb,lb≠0->(callFunc (ρ.f 27) #[.slice (some ⟨vb,voff,none⟩) m vc,.slice (some ⟨b,off+(i+m),none⟩) lb cb]).run P w=.ok (.value (.bool true)) W0)
  (hW:∀x,W0.cell? x=w.cell? x) (hF:∀x,W0.frozen? x=w.frozen? x) (Q:World->Prop)
  (hrot:Calls P (ρ.f 28) #[.slice (some ⟨b,off+i,none⟩) (n+m-i) (c-i),.int .i64 m] (W0.setCells b (off+n) vs) λe w'=>(∃x,e=.returned x)/\Q w')
  (hrot2:Calls P (ρ.f 28) #[.slice (some ⟨b,off+i,none⟩) (n+m-i) (c-i),.int .i64 m] (W0.drew.setCells b (off+n) vs) λe w'=>(∃x,e=.returned x)/\Q w'):
  Calls P (ρ.f 21) #[.slice (some ⟨b,off,none⟩) n c,.int .i64 i,.slice (some ⟨vb,voff,none⟩) m vc] w λe w' =>
   e=.returned (.slice (some ⟨b,off,none⟩) (n+m) c)/\Q w':=by
 have t0:=L.t0;have a0:=L.a0;have z0:=L.z0;have v0:=L.v0;have t3:=L.t3;have a3:=L.a3;have z3:=L.z3;have v3:=L.v3;have t4:=L.t4;have a4:=L.a4;have z4:=L.z4;have v4:=L.v4;have t22:=L.t22;have a22:=L.a22;have z22:=L.z22;have v22:=L.v22
 have u0:=run_underlying L.t0;have u3:=run_underlying L.t3;have u4:=run_underlying L.t4;have u22:=run_underlying L.t22
 have e28:∀args w,(callFunc (ρ.f 28) args).run P w=.ok (.enter (ρ.f 28) args) w:=enters_of L.f28 (by kernel_rfl) rfl
 have hz1:¬ ((m:Int)=0):=by omega
 have hz2:¬ ((i:Int)=(n:Int)):=by omega
 have hsz:(P.info? (ρ.t 3)).map (·.size)=some 1:=by
  obtain⟨i0,hi0,h0,h1,h2⟩:=info_parts L.i3
  rw[hi0];simp[h1]
 have mixed:=L.mixed
 have hw1:IntKind.i64.wrap ((i:Int)+(m:Int))=(i:Int)+(m:Int):=by rw[IntKind.wrap_i64];omega
 have hb1:(0:Int)<=(i:Int)+(m:Int):=by omega
 have hin:i<=n:=by omega
 have htn:((i:Int)+(m:Int)).toNat=i+m:=by omega
 have hb2:¬ (c=i+m):=by omega
 have hb3:(i:Int)<=(n:Int)+(m:Int):=by omega
 have hb4:¬ (c=i):=by omega
 have hb5:¬ (c=n):=by omega
 have hb6:(n:Int)<=(n:Int)+(m:Int):=by omega
 have hcp:∀(W:World),(∀x,W.cell? x=w.cell? x)->(∀x,W.frozen? x=w.frozen? x)->∀ty dc,(Builtin.copy_ #[(ρ.t 22),(ρ.t 22)] ty #[.slice (some ⟨b,off+n,none⟩) (n+m-n) dc,.slice (some ⟨vb,voff,none⟩) m vc]).run P W=.ok (goInt vs.length) (W.setCells b (off+n) vs):=λW hWc hWf ty dc =>
  run_copy_cells W _ _ ty (ρ.t 3) b (off+n) (n+m-n) dc ⟨vb,voff,none⟩ m vc vs L.t22 hsz (by rw[hvl];simp only[Nat.min_def];split<;>omega)
   (λj v hj=>by
    rw[Addr.add_lit,hWc]
    exact hvs j v hj)
   (λj hj=>by rw[hWc,abn];exact hsp _ (by omega)) (λj hj=>by rw[hWf,abn];exact hfz _ (by omega)) h1v
 have hcp0:∀ty dc,(Builtin.copy_ #[(ρ.t 22),(ρ.t 22)] ty #[.slice (some ⟨b,off+n,none⟩) m dc,.slice (some ⟨vb,voff,none⟩) m vc]).run P W0=.ok (goInt vs.length) (W0.setCells b (off+n) vs):=λty dc=>by
  have:=hcp W0 hW hF ty dc
  rwa [show n+m-n=m by omega] at this
 go_enter L.f21,Body2.n21_ntmps ρ
 go_wp2_with (first
  | (simp(disch:=omega)only[hov])
  | (at_builtin;refine wpList_copy_runI _ rfl _ _ (ρ.t 22) (ρ.t 22) rfl _ _ rfl rfl (hcp0 _ _) ?_)
  | (refine Calls.mono hrot ?_;rintro e w' ⟨⟨x,rfl⟩,hb⟩)
  | (refine Calls.mono hrot2 ?_;rintro e w' ⟨⟨x,rfl⟩,hb⟩))
 go_ret
 exact⟨rfl,hb⟩
theorem LI {P:Program} {ρ:Ren} (L:Lays2.n21 P ρ) (b off n c i vb voff m vc:Nat) (cs vs:List Value) (w W0:World) (hi:i<n) (hm:0<m) (hroom:n+m<=c) (hc63:n+m<=9223372036854775807) (hvb:vb≠b)
  (hcl:cs.length=n) (hvl:vs.length=m) (hcs:∀j v,cs[j]?=some v->w.cell? ⟨b,off+j,none⟩=some v) (hsp:∀j,j<n+m->(w.cell? ⟨b,off+j,none⟩).isSome=true) (hfz:∀j,j<n+m->w.frozen? ⟨b,off+j,none⟩=false)
  (hvs:∀j v,vs[j]?=some v->w.cell? ⟨vb,voff+j,none⟩=some v) (h1c:∀v∈cs,v.oneCell'=true) (h1v:∀v∈vs,v.oneCell'=true)
  (hov:∀lb cb,lb≠0->(callFunc (ρ.f 27) #[.slice (some ⟨vb,voff,none⟩) m vc,.slice (some ⟨b,off+(i+m),none⟩) lb cb]).run P w=.ok (.value (.bool false)) W0)
  (hW:∀x,W0.cell? x=w.cell? x) (hF:∀x,W0.frozen? x=w.frozen? x):
  Calls P (ρ.f 21) #[.slice (some ⟨b,off,none⟩) n c,.int .i64 i,.slice (some ⟨vb,voff,none⟩) m vc] w λe w' =>
   e=.returned (.slice (some ⟨b,off,none⟩) (n+m) c)/\w'=(W0.drew.setCells b (off+(i+m)) (cs.drop i)).setCells b (off+i) vs:=by
 have t0:=L.t0;have a0:=L.a0;have z0:=L.z0;have v0:=L.v0;have t3:=L.t3;have a3:=L.a3;have z3:=L.z3;have v3:=L.v3;have t4:=L.t4;have a4:=L.a4;have z4:=L.z4;have v4:=L.v4;have t22:=L.t22;have a22:=L.a22;have z22:=L.z22;have v22:=L.v22
 have u0:=run_underlying L.t0;have u3:=run_underlying L.t3;have u4:=run_underlying L.t4;have u22:=run_underlying L.t22
 have hz1:¬ ((m:Int)=0):=by omega
 have hz2:¬ ((i:Int)=(n:Int)):=by omega
 have hsz:(P.info? (ρ.t 3)).map (·.size)=some 1:=by
  obtain⟨i0,hi0,h0,h1,h2⟩:=info_parts L.i3
  rw[hi0];simp[h1]
 have hdl:(cs.drop i).length=n-i:=by rw[List.length_drop,hcl]
 have mixed:=L.mixed
 have hw1:IntKind.i64.wrap ((i:Int)+(m:Int))=(i:Int)+(m:Int):=by rw[IntKind.wrap_i64];omega
 have hb1:(0:Int)<=(i:Int)+(m:Int):=by omega
 have hin:i<=n:=by omega
 have htn:((i:Int)+(m:Int)).toNat=i+m:=by omega
 have hb2:¬ (c=i+m):=by omega
 have hb3:(i:Int)<=(n:Int)+(m:Int):=by omega
 have hb4:¬ (c=i):=by omega
 have hcp1:∀ty dc sc,(Builtin.copy_ #[(ρ.t 22),(ρ.t 22)] ty #[.slice (some ⟨b,off+(i+m),none⟩) (n+m-(i+m)) dc,.slice (some ⟨b,off+i,none⟩) (n+m-i) sc]).run P W0.drew=.ok (goInt (cs.drop i).length) (W0.drew.setCells b (off+(i+m)) (cs.drop i)):=λty dc sc =>
  run_copy_cells W0.drew _ _ ty (ρ.t 3) b (off+(i+m)) (n+m-(i+m)) dc ⟨b,off+i,none⟩ (n+m-i) sc (cs.drop i) L.t22 hsz (by rw[hdl];simp only[Nat.min_def];split<;>omega)
   (λj v hj=>by rw[Addr.add_lit,abn];exact(hW _).trans (hcs (i+j) v (by rwa [ab5] at hj)))
   (λj hj=>by rw[abn,show W0.drew.cell?=W0.cell? from rfl,hW];exact hsp _ (by omega)) (λj hj=>by rw[abn,show W0.drew.frozen?=W0.frozen? from rfl,hF];exact hfz _ (by omega)) (λv hv=>h1c v (List.mem_of_mem_drop hv))
 obtain⟨W1,hW1⟩:∃W1,W1=W0.drew.setCells b (off+(i+m)) (cs.drop i):=⟨_,rfl⟩
 have hsp1:∀k,k<n+m->(W1.cell? ⟨b,off+k,none⟩).isSome=true:=λk hk=>by
  rw[hW1]
  exact isSome_setCells b _ _ _ (λj hj=>by rw[abn,show W0.drew.cell?=W0.cell? from rfl,hW];exact hsp _ (by omega)) _ (by rw[show W0.drew.cell?=W0.cell? from rfl,hW];exact hsp k hk)
 have hcp2:∀(W:World),(∀x,W.cell? x=W1.cell? x)->(∀x,W.frozen? x=W1.frozen? x)->∀ty dc,(Builtin.copy_ #[(ρ.t 22),(ρ.t 22)] ty #[.slice (some ⟨b,off+i,none⟩) (n+m-i) dc,.slice (some ⟨vb,voff,none⟩) m vc]).run P W=.ok (goInt vs.length) (W.setCells b (off+i) vs):=λW hWc hWf ty dc =>
  run_copy_cells W _ _ ty (ρ.t 3) b (off+i) (n+m-i) dc ⟨vb,voff,none⟩ m vc vs L.t22 hsz (by rw[hvl];simp only[Nat.min_def];split<;>omega)
   (λj v hj=>by
    rw[Addr.add_lit,hWc,hW1,World.cell?_setCells_out b _ _ _ _ (λh _=>absurd h hvb)]
    exact(hW _).trans (hvs j v hj))
   (λj hj=>by rw[hWc,abn];exact hsp1 _ (by omega)) (λj hj=>by rw[hWf,hW1,World.frozen?_setCells,abn,show W0.drew.frozen?=W0.frozen? from rfl,hF];exact hfz _ (by omega)) h1v
 rw[<-hW1] at hcp1
 go_enter L.f21,Body2.n21_ntmps ρ
 go_wp2_with (simp(disch:=omega)only[hov])
 go_region_law_o (refine step_copy_runI rfl _ _ (ρ.t 22) (ρ.t 22) rfl _ _ (by simp[Act.eval,Act.put]) (by simp[Act.eval,Act.put]) (hcp1 _ _ _) ?_)
 go_wp2_with (at_builtin;refine wpList_copy_runI _ rfl _ _ (ρ.t 22) (ρ.t 22) rfl _ _ rfl rfl (hcp2 _ (λ_=>rfl) (λ_=>rfl) _ _) ?_)
 go_ret
 first | exact⟨rfl,rfl⟩ | exact⟨rfl,by rw[hW1]⟩
theorem Lh {P:Program} {k:Ren} (L:Lays2.n21 P k) (b off n c i l a m u:Nat) (cs vs:List Value) (w:World) (hi:i<n) (hm:0<m) (g:n+m<=c) (p:n+m<=9223372036854775807) (r:l≠b)
  (F:cs.length=n) (y:vs.length=m) (G:∀j v,cs[j]?=some v->w.cell? ⟨b,off+j,none⟩=some v) (z:∀j,j<n+m->(w.cell? ⟨b,off+j,none⟩).isSome=true) (s:∀j,j<n+m->w.frozen? ⟨b,off+j,none⟩=false)
  (A:∀j v,vs[j]?=some v->w.cell? ⟨l,a+j,none⟩=some v) (H:∀v∈cs,v.oneCell'=true) (B:∀v∈vs,v.oneCell'=true)
  (U V:TypeId) (I J:Nat) (K:w.shape? l=some (U,I)) (M:w.shape? b=some (V,J)) (N:I≠0) (O:J≠0) (R:w.frozen? ⟨l,a,none⟩=false) (Q:World->Prop)
  (Y:∀d,(d=w∨d=w.drew)->Q ((d.drew.setCells b (off+(i+m)) (cs.drop i)).setCells b (off+i) vs))
  (q:∀d,(d=w∨d=w.drew∨d=w.drew.drew)->Calls P (k.f 28) #[.slice (some ⟨b,off+i,none⟩) (n+m-i) (c-i),.int .i64 m] (d.setCells b (off+n) vs) λe w'=>(∃x,e=.returned x)/\Q w'):
  Calls P (k.f 21) #[.slice (some ⟨b,off,none⟩) n c,.int .i64 i,.slice (some ⟨l,a,none⟩) m u] w λe w' =>
   e=.returned (.slice (some ⟨b,off,none⟩) (n+m) c)/\Q w':=by
 obtain⟨o,d,C,h⟩:=DM w (k.t 22) (k.t 4) (k.t 3) L.t22 1 L.z3 (by decide) ⟨l,a,none⟩ ⟨b,off+(i+m),none⟩ m u (by omega) r U V I J K M N O R (s _ (by omega))
 have D:∀E S,E≠0->(callFunc (k.f 27) #[.slice (some ⟨l,a,none⟩) m u,.slice (some ⟨b,off+(i+m),none⟩) E S]).run P w=.ok (.value (.bool o)) d:=λE S T=>by
  rw[run_callFunc_extern L.f27 (by kernel_rfl) (by kernel_rfl) (by kernel_rfl) (e:=Extern.SlicesOverlaps.overlaps #[(k.t 22),(k.t 22)] #[(k.t 4)]) (by kernel_rfl),h E S T]
  rfl
 have W:∀x,d.cell? x=w.cell? x:=λx=>by rcases C with rfl | rfl<;>rfl
 have X:∀x,d.frozen? x=w.frozen? x:=λx=>by rcases C with rfl | rfl<;>rfl
 cases o with
 | false=>exact(LI L b off n c i l a m u cs vs w d hi hm g p r F y G z s A H B D W X).mono λe w' ⟨h1,Z⟩=>⟨h1,by rw[Z];exact Y d C⟩
 | true=>exact MM L b off n c i l a m u vs w d hi hm g p r y z s A B D W X Q (q d (C.imp id .inl)) (q d.drew (C.elim (λh=>.inr (.inl (by rw[h]))) (λh=>.inr (.inr (by rw[h])))))
theorem PY {P:Program} {ρ:Ren} (L:Lays2.n21 P ρ) (b off n c vb voff m vc:Nat) (vs:List Value) (w:World) (hm:0<m) (hroom:n+m<=c) (hc63:n+m<=9223372036854775807)
  (hvl:vs.length=m) (hsp:∀j,j<m->(w.cell? ⟨b,off+n+j,none⟩).isSome=true) (hfz:∀j,j<m->w.frozen? ⟨b,off+n+j,none⟩=false)
  (hvs:∀j v,vs[j]?=some v->w.cell? ⟨vb,voff+j,none⟩=some v) (h1v:∀v∈vs,v.oneCell'=true):
  Calls P (ρ.f 21) #[.slice (some ⟨b,off,none⟩) n c,.int .i64 n,.slice (some ⟨vb,voff,none⟩) m vc] w λe w' =>
   e=.returned (.slice (some ⟨b,off,none⟩) (n+m) c)/\w'=w.setCells b (off+n) vs:=by
 have t0:=L.t0;have a0:=L.a0;have z0:=L.z0;have v0:=L.v0;have t3:=L.t3;have a3:=L.a3;have z3:=L.z3;have v3:=L.v3;have t4:=L.t4;have a4:=L.a4;have z4:=L.z4;have v4:=L.v4;have t22:=L.t22;have a22:=L.a22;have z22:=L.z22;have v22:=L.v22
 have u0:=run_underlying L.t0;have u3:=run_underlying L.t3;have u4:=run_underlying L.t4;have u22:=run_underlying L.t22
 have mixed:=L.mixed
 have hz1:¬ ((m:Int)=0):=by omega
 have hsrc:Src P 1 (ρ.t 22) (.slice (some ⟨vb,voff,none⟩) m vc) m vs w:=Src.ofSlice w L.t22 ⟨vb,voff,none⟩ m vc vs (by omega) (λj u hj=>by rw[Addr.add_lit];exact hvs j u hj) h1v
 go_enter L.f21,Body2.n21_ntmps ρ
 go_wp2_with (at_builtin;refine wpList_append_room1 _ rfl _ _ (ρ.t 22) (ρ.t 22) rfl (ρ.t 3) _ _ L.t22 L.i3 b off n c rfl _ rfl m vs hsrc hroom (by rw[hvl];exact hsp) (by rw[hvl];exact hfz) ?_)
 go_ret
 exact⟨rfl,rfl⟩
open Go Go.Lib Go.Proofs Go.Shelf Go.RowKit Go.Sort
def eM:Ren where
 f:=fun
  | 21=>142
  | 27=>201
  | 28=>202
  | 35=>253
  | 39=>285
  | n=>n
 t:=fun
  | 22=>27
  | 3=>3
  | 4=>4
  | 0=>0
  | n=>n
 g:=λn=>n
theorem JZ:Go.Proofs.Lays2.n21 aa eM where
 mixed:=by kernel_rfl
 f21:=by kernel_rfl
 f27:=by kernel_rfl
 f28:=by kernel_rfl
 f35:=by kernel_rfl
 f39:=by kernel_rfl
 t0:=Tryz.underlying0
 a0:=Tryz.isAgg0
 z0:=Tryz.sizeOf0
 v0:=Tryz.zeroValue0
 t3:=Tryz.underlying3
 a3:=Tryz.isAgg3
 z3:=Tryz.sizeOf3
 v3:=Tryz.zeroValue3
 t4:=Tryz.underlying4
 a4:=Tryz.isAgg4
 z4:=Tryz.sizeOf4
 v4:=Tryz.zeroValue4
 t22:=Tryz.underlying27
 a22:=Tryz.isAgg27
 z22:=Tryz.sizeOf27
 v22:=Tryz.zeroValue27
 i3:=by kernel_rfl
def Uw:Ren where
 f:=fun
  | 23=>144
  | n=>n
 t:=fun
  | 22=>27
  | 3=>3
  | 4=>4
  | 0=>0
  | n=>n
 g:=λn=>n
theorem aak:Go.Proofs.Lays2.n23 aa Uw where
 mixed:=by kernel_rfl
 f23:=by kernel_rfl
 t0:=Tryz.underlying0
 a0:=Tryz.isAgg0
 z0:=Tryz.sizeOf0
 v0:=Tryz.zeroValue0
 t3:=Tryz.underlying3
 a3:=Tryz.isAgg3
 z3:=Tryz.sizeOf3
 v3:=Tryz.zeroValue3
 t4:=Tryz.underlying4
 a4:=Tryz.isAgg4
 z4:=Tryz.sizeOf4
 v4:=Tryz.zeroValue4
 t22:=Tryz.underlying27
 a22:=Tryz.isAgg27
 z22:=Tryz.sizeOf27
 v22:=Tryz.zeroValue27
 i3:=by kernel_rfl
section
variable {Z:Nat->Prop} {μ:Mu}
theorem Hp {hp:Array Obj} {id off len esz:Nat} {x:Value} (h:aD Z μ hp (.sl id off len esz) x):
  (len=0/\∃a,x=.slice a 0 0)∨∃b o0 cap,∃c:Array Value,∃e f,x=.slice (some ⟨b,o0+off*esz,none⟩) len cap/\μ id=some (b,o0,esz)/\len<=cap/\hp[b]?=some (.cells c e f)/\o0+(off+cap)*esz<=c.size:=by
 cases h with
 | qq _ _ _ a=>exact .inl ⟨rfl,a,rfl⟩
 | sl _ _ _ _ b o0 cap c e f h1 d g i=>exact .inr ⟨b,o0,cap,c,e,f,rfl,h1,d,g,i⟩
theorem Cm {hp:Array Obj} {id b o0:Nat} {l:List Int} {c:Array Value} {e:TypeId} {f:Nat × Nat} (hm:μ id=some (b,o0,1)) (d:hp[b]?=some (.cells c e f)) (g:f.1=f.2∨c.size<=f.1) (k:o0+l.length<=c.size)
  (h:∀j,j<l.length->cellAt hp b (o0+j)=some (.int .i64 (l.getD j 0))):eP Z μ hp id (.arr 1 (aR l)):=by
 intro m n s1 h1
 rw[hm] at h1
 simp only[aaK,aaN] at h1
 obtain⟨rfl,rfl,rfl⟩:=h1
 have a:(aR l).length=l.length:=by simp
 refine⟨rfl,⟨c,e,f,d,g,by rw[a];omega⟩,λi hi=>?_,λi j hi o=>?_⟩
 .rw[a] at hi;rw[z7 hi];rfl
 .rw[a] at hi
  rw[z7 hi]
  obtain rfl:j=0:=by omega
  exact⟨_,by simpa using h i hi,.val _ rfl⟩
theorem GK {w:World} {H:View} {n b o0:Nat} {l:List Int} (hr:eO Z μ w.heap H) (g:H n=.arr 1 (aR l)) (hm:μ n=some (b,o0,1)):
  ∃c e f,w.heap[b]?=some (.cells c e f)/\(f.1=f.2∨c.size<=f.1)/\o0+l.length<=c.size/\∀j,j<l.length->w.cell? ⟨b,o0+j,none⟩=some (.int .i64 (l.getD j 0)):=by
 have h:=hr.obj n
 rw[g] at h
 obtain⟨_,⟨c,e,f,i,k,m⟩,_,o⟩:=h b o0 1 hm
 refine⟨c,e,f,i,k,by simpa using m,λj a=>?_⟩
 obtain⟨x,p,d⟩:=o j 0 (by simpa using a) (by omega)
 rw[z7 a] at d
 cases d
 rw[jk]
 simpa using p
theorem VE {w:World} {b k:Nat} {c:Array Value} {e:TypeId} {f:Nat × Nat} (a:w.heap[b]?=some (.cells c e f)) (d:f.1=f.2∨c.size<=f.1) (hk:k<c.size):w.frozen? ⟨b,k,none⟩=false:=by
 simp only[World.frozen?,a]
 rcases d with e | e
 .simp only[e,Bool.and_eq_false_iff,ab4];omega
 .simp only[Bool.and_eq_false_iff,ab4];omega
structure fi (w w':World) (b:Nat):Prop where
 same:eX w w'
 old:∀j,j≠b->w'.heap[j]?=w.heap[j]?
 cell:∀c e f,w.heap[b]?=some (.cells c e f)->∃c',w'.heap[b]?=some (.cells c' e f)/\c'.size=c.size
theorem fi.refl (w:World) (b:Nat):fi w w b:=⟨.refl w,λ_ _=>rfl,λc e f h=>⟨c,h,rfl⟩⟩
theorem fi.trans {w a d:World} {b:Nat} (h:fi w a b) (k:fi a d b):fi w d b:=⟨h.same.trans k.same,λj g=>(k.old j g).trans (h.old j g),λc e f i=>by
 obtain⟨c1,h1,s1⟩:=h.cell c e f i
 obtain⟨c2,l,s2⟩:=k.cell c1 e f h1
 exact⟨c2,l,s2.trans s1⟩⟩
theorem fi.drew (w:World) (b:Nat):fi w w.drew b:=⟨⟨rfl,rfl,rfl,aaQ _⟩,λ_ _=>rfl,λc e f h=>⟨c,h,rfl⟩⟩
theorem fi.map (w:World) (b:Nat) (g:Array Value->Array Value) (a:∀c,(g c).size=c.size):fi w (mapBlock w b g) b:=by
 refine⟨⟨rfl,rfl,rfl,?_⟩,λj d=>?_,λc e f h=>⟨g c,?_,a c⟩⟩
 .simp[mapBlock]
 .simp only[mapBlock,acn]
  rw[aaI (λe=>d e.symm)]
 .simp only[mapBlock,acn,if_true,h]
  rfl
theorem fi.setCells (b:Nat):∀(vs:List Value) (o:Nat) (w:World),fi w (w.setCells b o vs) b
 | [],_,w=>.refl w b
 | v::r,o,w=>by
  rw[World.setCells]
  refine fi.trans ?_ (fi.setCells b r (o+1) _)
  rw[setCell_eq]
  exact fi.map _ _ _ (λc=>by simp)
theorem fi.ahead (w:World) (b q:Nat):fi w (Sort.ahead w q) b:=⟨⟨rfl,rfl,rfl,aaQ _⟩,λ_ _=>rfl,λc e f h=>⟨c,h,rfl⟩⟩
theorem fi.mn {w w':World} {b:Nat} (h:fi w w' b):gn w.heap w'.heap:=λj c e f a=>by
 by_cases d:j=b
 .subst d
  obtain⟨g,h1,i⟩:=h.cell c e f a
  exact⟨g,f,h1,i⟩
 .exact⟨c,f,by rw[h.old j d];exact a,rfl⟩
theorem Rv {h:Heap} {F:View} {eff:bo} (b:∀id,id∈eff.wr->h.view id≠.dead):cat (eff.apply h) F=eff.view (cat h F) h.length:=by
 have c:=k9 b
 funext k
 cases eff with
 | none=>rfl
 | new o =>
  have a:(bo.apply h (.new o)).length=h.length+1:=by simp[bo.apply]
  simp only[cat,c,a,bo.view,View.set]
  (repeat' split)<;>first | rfl | omega
 | fJ id o =>
  have:=fa (b id (by simp[bo.wr]))
  have a:(bo.apply h (.fJ id o)).length=h.length:=by simp[bo.apply]
  simp only[cat,c,a,bo.view,View.set]
  (repeat' split)<;>first | rfl | omega
 | eR id o =>
  have:=fa (b id (by simp[bo.wr]))
  have a:(bo.apply h (.eR id o)).length=h.length+1:=by simp[bo.apply]
  simp only[cat,c,a,bo.view,View.set]
  (repeat' split)<;>first | rfl | omega
theorem Cr {μ':Mu} {w w':World} {h:Heap} {F:View} {eff:bo} (hr:eO Z μ w.heap (cat h F)) (he:nj Z μ μ' w.heap w'.heap h.length eff) (c:eX w w') (d:eff.fresh (μ h.length=none)) (b:∀id,id∈eff.wr->h.view id≠.dead):
  eO Z μ' w'.heap (cat (eff.apply h) F)/\Ext Z μ w h.length Z μ' w':=by
 refine⟨?_,(he.ext c d hr.df hr.ix).1⟩
 rw[Rv b]
 have f:∀id,h.view id≠.dead->cat h F id≠.dead:=λid a=>by
  simp only[cat];rw[aaL (fa a)];exact a
 exact hr.eff d c.size he (λid o e=>f id (b id (by rw[e];simp[bo.wr]))) (λid o e=>f id (b id (by rw[e];simp[bo.wr])))
theorem Yt {w w':World} {h:Heap} {F:View} {n b o0:Nat} {l l':List Int} (hr:eO Z μ w.heap (cat h F)) (o:h.view n=.arr 1 (aR l)) (a:μ h.length=none) (hm:μ n=some (b,o0,1)) (hp:fi w w' b)
  {c:Array Value} {e:TypeId} {f:Nat × Nat} (p:w.heap[b]?=some (.cells c e f)) (q:f.1=f.2∨c.size<=f.1) (r:o0+l'.length<=c.size) (s:∀j,j<l'.length->w'.cell? ⟨b,o0+j,none⟩=some (.int .i64 (l'.getD j 0))):
  eO Z (μ.set h.length (b,o0,1)) w'.heap (cat (h.set n .dead++[.arr 1 (aR l')]) F)/\Ext Z μ w h.length Z (μ.set h.length (b,o0,1)) w':=by
 obtain⟨t,i,d⟩:=hp.cell c e f p
 refine Cr (eff:=.eR n (.arr 1 (aR l'))) hr ?_ hp.same a (λid g=>by
  simp[bo.wr] at g;subst g;rw[o];simp)
 refine⟨b,o0,1,rfl,?_,.inr ⟨⟨o0,1,hm⟩,λj m k=>hp.old j k,hp.mn⟩⟩
 exact Cm (b:=b) (o0:=o0) (by simp[Mu.set]) i (by rw[d];exact q) (by rw[d];exact r) (λj m=>by rw[<-jk];exact s j m)
theorem YH {w w':World} {h:Heap} {F:View} {n b o0:Nat} {l l':List Int} (hr:eO Z μ w.heap (cat h F)) (m:h.view n=.arr 1 (aR l)) (hm:μ n=some (b,o0,1)) (hp:fi w w' b)
  {c:Array Value} {e:TypeId} {f:Nat × Nat} (o:w.heap[b]?=some (.cells c e f)) (p:f.1=f.2∨c.size<=f.1) (q:o0+l'.length<=c.size) (r:∀j,j<l'.length->w'.cell? ⟨b,o0+j,none⟩=some (.int .i64 (l'.getD j 0))):
  eO Z μ w'.heap (cat (h.set n (.arr 1 (aR l'))) F)/\Ext Z μ w h.length Z μ w':=by
 obtain⟨s,g,a⟩:=hp.cell c e f o
 refine Cr (eff:=.fJ n (.arr 1 (aR l'))) hr ?_ hp.same trivial (λid d=>by
  simp[bo.wr] at d;subst d;rw[m];simp)
 refine⟨b,o0,1,hm,rfl,λj k i=>hp.old j i,hp.mn,?_⟩
 exact Cm hm g (by rw[a];exact p) (by rw[a];exact q) (λj k=>by rw[<-jk];exact r j k)
theorem G2 {w w':World} {h:Heap} {F:View} {l':List Int} (hr:eO Z μ w.heap (cat h F)) (a:μ h.length=none) (g:eX w w') (hold:∀j,j<w.heap.size->w'.heap[j]?=w.heap[j]?)
  {c:Array Value} {e:TypeId} {f:Nat × Nat} (l:w'.heap[w.heap.size]?=some (.cells c e f)) (o:f.1=f.2∨c.size<=f.1) (r:l'.length<=c.size) (p:∀j,j<l'.length->w'.cell? ⟨w.heap.size,j,none⟩=some (.int .i64 (l'.getD j 0)))
  {eff:bo} (he:eff=.new (.arr 1 (aR l'))∨∃n,eff=.eR n (.arr 1 (aR l'))/\h.view n≠.dead):
  eO Z (μ.set h.length (w.heap.size,0,1)) w'.heap (cat (eff.apply h) F)/\Ext Z μ w h.length Z (μ.set h.length (w.heap.size,0,1)) w':=by
 have i:w.heap.size<w'.heap.size:=fC l
 have m:eP Z (μ.set h.length (w.heap.size,0,1)) w'.heap h.length (.arr 1 (aR l')):=Cm (b:=w.heap.size) (o0:=0) (by simp[Mu.set]) l o (by omega) (λj k=>by rw[<-jk,abx];exact p j k)
 rcases he with rfl | ⟨n,rfl,q⟩
 .exact Cr hr ⟨_,0,1,aaQ _,i,rfl,λj k _=>hold j k,m⟩ g a (λid d=>by simp[bo.wr] at d)
 .exact Cr hr ⟨_,0,1,rfl,m,.inl ⟨aaQ _,i,λj k _=>hold j k⟩⟩ g a (λid d=>by
   simp[bo.wr] at d;subst d;exact q)
end
theorem xY {l:List Int} {i:Nat} {t:Int} (hi:i<=l.length) (j:Nat):(fQ l i 0 [t]).getD j 0=if j<i then l.getD j 0 else if j=i then t else l.getD (j-1) 0:=by
 unfold fQ
 simp only[aaG,List.getElem?_append,abL,Nat.min_eq_left hi,abX,List.length_singleton,ab5]
 by_cases h1:j<i
 .simp[h1]
 .rw[aaI h1,aaI h1]
  by_cases a:j=i
  .subst a;simp
  .rw[aaI (by omega),aaI a]
   congr 2;omega
theorem mE {l:List Int} {i:Nat} {t:Int} (hi:i<=l.length):(fQ l i 0 [t]).length=l.length+1:=by
 unfold fQ;simp;omega
theorem Xf {l cur:List Int} {i:Nat} {t:Int} (hi:i<=l.length) (h:G6 (l++[t]) cur i (l.length+1-i) (l.length+1-i-1)):cur=fQ l i 0 [t]:=by
 obtain⟨h1,c⟩:=h
 simp only[aa5,List.length_singleton] at h1 c
 refine abB (by rw[mE hi,h1]) λk hk a=>?_
 have b:k<l.length+1:=by omega
 have e:=c k b
 have f:=xY (t:=t) hi k
 have g:cur.getD k 0=cur[k]:=by simp[aaH hk]
 have a2:(fQ l i 0 [t]).getD k 0=(fQ l i 0 [t])[k]:=by simp[aaH a]
 rw[<-g,<-a2,e,f]
 have d:∀m,m<l.length->(l++[t]).getD m 0=l.getD m 0:=λm hm=>by simp[abf hm]
 have j:(l++[t]).getD l.length 0=t:=by simp
 by_cases c1:k<i
 .rw[aaI (by omega),aaL c1]
  exact d k (by omega)
 .rw[aaL (by omega),aaI c1]
  by_cases c2:k=i
  .rw[aaL c2,aaL (by omega),show k+(l.length+1-i-1)=l.length by omega,j]
  .rw[aaI c2,aaI (by omega),show k+(l.length+1-i-1)-(l.length+1-i)=k-1 by omega]
   exact d _ (by omega)
open Go Go.Lib Go.Proofs Go.Shelf Go.RowKit Go.Sort
theorem lI {w:World} {b k:Nat} {vs:List Value} {o:Nat} (a:∀j,j<vs.length->(w.cell? ⟨b,o+j,none⟩).isSome=true):
  (w.setCells b o vs).cell? ⟨b,k,none⟩=if o<=k/\k<o+vs.length then vs[k-o]? else w.cell? ⟨b,k,none⟩:=by
 split
 .rename_i h
  have:=World.cell?_setCells_in b vs o w a (k-o) (by omega)
  rw[show o+(k-o)=k by omega] at this
  rw[this,aaH (by omega)]
 .rename_i h
  exact World.cell?_setCells_out b vs o w _ (λ_ _=>by show k<o∨o+vs.length<=k;omega)
theorem Bc {l:List Int} {j:Nat} (h:j<l.length):(l.map (Value.int .i64))[j]?=some (.int .i64 (l.getD j 0)):=by
 simp[h]
theorem nV {w:World} {row:Array Value} {e:TypeId} : (w.alloc (.cells row e)).heap[w.heap.size]?=some (.cells row e (0,0)):=World.alloc_heap_new w _
theorem Bg {w:World} {o:Obj} {j:Nat} (a:j<w.heap.size):(w.alloc o).heap[j]?=w.heap[j]?:=by
 rw[heap_alloc,acw,aaI (by omega)]
theorem EH:CQ:=by
 intro H u v l i t ho hv cb hi hl
 refine⟨by kernel_rfl,?_⟩
 rintro h rfl
 have bl:v<h.length:=fa (by rw[hv];simp)
 have args:∀ {Z:Nat->Prop} {μ:Mu} {F:View} {w:World} {u:V} {xs:List Value},gG Z μ w.heap [u,gi i,.sl v 0 1 1] xs->eO Z μ w.heap (cat h F) ->
   ∃x B E S,xs=[x,.int .i64 i,.slice (some ⟨B,E,none⟩) 1 S]/\aD Z μ w.heap u x/\μ v=some (B,E,1)/\(∃c e f,w.heap[B]?=some (.cells c e f)/\(f.1=f.2∨c.size<=f.1)/\E+1<=c.size)/\w.cell? ⟨B,E,none⟩=some (.int .i64 t):=by
  intro Z μ F w u xs I hr
  obtain⟨hlen,hx⟩:=I
  obtain⟨x0,x1,x2,rfl⟩:∃x0 x1 x2,xs=[x0,x1,x2]:=by
   match xs,hlen with
   | [a,b,c],_=>exact⟨a,b,c,rfl⟩
  have h0:aD Z μ w.heap u x0:=hx 0 (by simp)
  have h1:aD Z μ w.heap (gi i) x1:=hx 1 (by simp)
  have P:aD Z μ w.heap (.sl v 0 1 1) x2:=hx 2 (by simp)
  have e1:=fc h1
  subst e1
  rcases Hp P with ⟨e,_⟩ | ⟨B,E,S,cv,ev,fv,rfl,J,cS,aq,cc⟩
  .omega
  have cf:cat h F v=.arr 1 (aR [t]):=by simp only[cat];rw[aaL bl,hv];rfl
  obtain⟨c,e,f,hc,hf,hs,d⟩:=GK hr cf J
  exact⟨x0,B,E,S,by simp,h0,J,⟨c,e,f,hc,hf,by simpa using hs⟩,by simpa using d 0 (by simp)⟩
 have T:∀ {w:World} {B E:Nat},w.cell? ⟨B,E,none⟩=some (.int .i64 t)->∀j x,[Value.int .i64 t][j]?=some x->w.cell? ⟨B,E+j,none⟩=some x:=by
  intro w B E d j x p
  match j,p with
  | 0,p=>simp at p;subst p;simpa using d
 have U:∀x∈[Value.int .i64 t],x.oneCell'=true:=by simp;rfl
 have hG:∀(w:World) (n c:Nat),n<=grownCap w n c (eM.t 3):=λw n c=>grownCap_ge w _ _ _
 rcases ho with ⟨he,k,rfl⟩ | ⟨n,rfl,hn⟩
 .obtain rfl:l=[]:=List.map_eq_nil_iff.1 he
  obtain rfl:i=0:=by simpa using hi
  refine⟨.sl h.length 0 1 1,h++[.arr 1 (aR [t])],⟨by simp,λZ μ F w xs I hr z=>?_⟩,λk hk hd=>?_,?_,?_⟩
  rotate_left
  .rw[kS];simp only[View.set];rw[aaI (by omega)];exact hd
  .exact .inr ⟨h.length,rfl,by rw[kS];simp[View.set];rfl⟩
  .intro id C _ _
   have:=fa C
   rw[kS]
   exact⟨by simp only[View.set];rw[aaI (by omega)],by simp[owner];omega⟩
  obtain⟨x,B,E,S,rfl,h0,J,_,d⟩:=args I hr
  have W:=z h.length (aaQ _) (by simp)
  cases h0 with
  | emp _ a _ _ =>
   have r:=Any2.slices_Insert_int_end_grow JZ a 0 0 B E 1 S [] [.int .i64 t] w (by omega) (by omega) (by omega) (by omega) rfl rfl (λ_=>rfl) (by simp) (T d) U
   refine Calls.mono (show Calls aa 142 _ w _ from r) ?_
   rintro e w' ⟨rfl,rfl⟩
   have hg:=hG w (0+1) 0
   generalize grownCap w (0+1) 0 (eM.t 3)=G at hg ⊢
   generalize s:(([]++[Value.int .i64 t]).toArray++Builtin.zeroCells (Value.int .i64 0).cells (G-(0+1)))=row
   have bn:row.size=G:=by rw[<-s];simp[Builtin.zeroCells,Value.cells];omega
   obtain⟨k1,k2⟩:=G2 (l':=[t]) (w':=w.drew.alloc (.cells row _)) (eff:=.new (.arr 1 (aR [t]))) hr W (iH _ _) (λj p=>Bg (w:=w.drew) p) (nV (w:=w.drew)) (.inl rfl) (by simp;omega) (λj p=>by
    obtain rfl:j=0:=by simpa using p
    have:=World.cell?_alloc_at (w:=w.drew) row (eM.t 3) w.heap.size 0 rfl
    refine this.trans ?_
    rw[<-s,abE (by simp)];rfl) (.inl rfl)
   refine⟨_,Z,_,rfl,?_,k1,k2,λid C=>?_⟩
   .have:=aD.sl (Z:=Z) (μ:=μ.set h.length (w.heap.size,0,1)) (hp:=(w.drew.alloc (.cells row (eM.t 3))).heap) h.length 0 1 1 w.heap.size 0 G row _ (0,0) (by simp[Mu.set]) (by omega) (nV (w:=w.drew)) (by omega)
    simpa using this
   .simp only[Mu.set]
    rw[aaI (by simp at C;omega)]
 .simp only[aaM] at *
  have ar:n<h.length:=fa (by rw[hn];simp)
  have ch:v≠n:=λe=>cb (by rw[e];rfl)
  have e1:Heap.view (h.set n .dead++[.arr 1 (aR (l++[t]))]) h.length=.arr 1 (aR (l++[t])):=by
   have:=kS (h.set n .dead) (.arr 1 (aR (l++[t])))
   rw[this];simp[View.set]
  obtain⟨_,hR⟩:=Hn (H:=Heap.view (h.set n .dead++[.arr 1 (aR (l++[t]))])) (id:=h.length) (l:=l++[t]) (off:=i) (len:=l.length+1-i) (m:=1) e1 (by simp;omega) (by omega) (by unfold aI;simp;omega)
  obtain⟨r2,P,hA,hS,cur,br,bs,a1⟩:=hR _ rfl
  obtain rfl:=Xf hi bs
  have cV:h.length+1<=P.length:=by simpa using hA.1
  have D:∀id,P.view id=if id=h.length then .arr 1 (aR (fQ l i 0 [t])) else if id=n then .dead else h.view id:=λid=>by
   by_cases e:id=h.length
   .rw[aaL e,e,br]
   .rw[aaI e,a1 id e,kS,gC ar]
    simp only[View.set,acm]
    rw[aaI e]
  refine⟨.sl h.length 0 (l.length+1) 1,P,⟨by omega,λZ μ F w xs I hr z=>?_⟩,λk hk hd=>?_,?_,?_⟩
  rotate_left
  .rw[D,aaI (by omega),hd];simp
  .exact .inr ⟨h.length,by rw[aaM,mE hi],by rw[D,aaL rfl]⟩
  .intro id C _ hu
   have h3:=fa C
   have h4:id≠n:=λe=>hu (by rw[e];rfl)
   rw[D,aaI (by omega),aaI h4]
   exact⟨rfl,by simp[owner];omega⟩
  obtain⟨x,B,E,S,rfl,h0,J,⟨cv,ev,fv,aq,cj,cc⟩,d⟩:=args I hr
  have W:=z h.length (aaQ _) (by omega)
  have bx:cat h F n=.arr 1 (aR l):=by simp only[cat];rw[aaL ar,hn]
  have fin:∀ {w':World} {y:Value} {b o:Nat},eO Z (μ.set h.length (b,o,1)) w'.heap (cat (h.set n .dead++[.arr 1 (aR (fQ l i 0 [t]))]) F)/\Ext Z μ w h.length Z (μ.set h.length (b,o,1)) w'->aD Z (μ.set h.length (b,o,1)) w'.heap (.sl h.length 0 (l.length+1) 1) y ->
    ∃A μ',aD A μ' w'.heap (.sl h.length 0 (l.length+1) 1) y/\eO A μ' w'.heap (cat P F)/\Ext Z μ w h.length A μ' w'/\∀id,id<h.length∨P.length<=id->μ' id=μ id:=by
   rintro w' y b o ⟨k1,k2⟩ k3
   refine⟨Z,_,k3,k1.congr λid C=>?_,k2,λid C=>?_⟩
   .have e2:Heap.view (h.set n .dead++[.arr 1 (aR (fQ l i 0 [t]))]) id=P.view id:=by
     rw[D,kS,gC ar]
     simp only[View.set,acm]
    simp only[cat,aa5,acm,List.length_singleton]
    by_cases c1:id<h.length+1
    .rw[aaL c1,aaL (by omega),e2]
    .rw[aaI c1]
     by_cases c2:id<P.length
     .exact absurd (by simp only[Mu.set];rw[aaI (by omega)];exact z id (by omega) c2) C
     .rw[aaI c2]
   .simp only[Mu.set];rw[aaI (by omega)]
  have live:h.view n≠.dead:=by rw[hn];simp
  have a6:(l.map (Value.int .i64)).length=l.length:=by simp
  have b0:∀x∈l.map (Value.int .i64),x.oneCell'=true:=λx hx=>by
   obtain⟨_,_,rfl⟩:=aa4.1 hx
   rfl
  have al:∀(a:Option Addr) (c:Nat),i=l.length->l.length<=c->c<l.length+1->(a=none->l.length=0)->(∀ad,a=some ad->∀j v,(l.map (Value.int .i64))[j]?=some v->w.cell? (ad.add j)=some v) ->
    Calls aa 142 #[.slice a l.length c,.int .i64 l.length,.slice (some ⟨B,E,none⟩) 1 S] w λe w'=>∃x A μ',e=.returned x/\aD A μ' w'.heap (.sl h.length 0 (l.length+1) 1) x/\eO A μ' w'.heap (cat P F)/\Ext Z μ w h.length A μ' w'/\∀id,id<h.length∨P.length<=id->μ' id=μ id:=by
   intro a c K ck c3 b1 X
   have r:=Any2.slices_Insert_int_end_grow JZ a l.length c B E 1 S (l.map (Value.int .i64)) [.int .i64 t] w (by omega) ck (by omega) (by omega) a6 rfl b1 X (T d) U
   refine Calls.mono (show Calls aa 142 _ w _ from r) ?_
   rintro e w' ⟨rfl,rfl⟩
   have hg:=hG w (l.length+1) c
   generalize grownCap w (l.length+1) c (eM.t 3)=G at hg ⊢
   generalize s:((l.map (Value.int .i64)++[Value.int .i64 t]).toArray++Builtin.zeroCells (Value.int .i64 0).cells (G-(l.length+1)))=row
   have bn:row.size=G:=by rw[<-s];simp[Builtin.zeroCells,Value.cells];omega
   have k:=G2 (l':=fQ l i 0 [t]) (w':=w.drew.alloc (.cells row (eM.t 3))) (eff:=.eR n (.arr 1 (aR (fQ l i 0 [t])))) hr W (iH _ _) (λj p=>Bg (w:=w.drew) p) (nV (w:=w.drew)) (.inl rfl) (by rw[mE hi];omega) (λj p=>by
    rw[mE hi] at p
    have:=World.cell?_alloc_at (w:=w.drew) row (eM.t 3) w.heap.size j rfl
    refine this.trans ?_
    rw[<-s,xY hi,K,abE (by simp;omega),abp]
    by_cases c1:j<l.length
    .rw[aaL c1,abf (by omega),Bc c1]
    .obtain rfl:j=l.length:=by omega
     rw[aaI c1,aaL rfl,abN (by omega)]
     simp) (.inr ⟨n,rfl,live⟩)
   obtain⟨A,μ',f1,f2,f3,f4⟩:=fin k (y:=.slice (some ⟨w.heap.size,0,none⟩) (l.length+1) G) (by
    have:=aD.sl (Z:=Z) (μ:=μ.set h.length (w.heap.size,0,1)) (hp:=(w.drew.alloc (.cells row (eM.t 3))).heap) h.length 0 (l.length+1) 1 w.heap.size 0 G row _ (0,0) (by simp[Mu.set]) (by omega) (nV (w:=w.drew)) (by omega)
    simpa using this)
   exact⟨_,A,μ',rfl,f1,f2,f3,f4⟩
  rcases Hp h0 with ⟨e0,a,rfl⟩ | ⟨b,o0,cap,c0,e0,f0,rfl,a7,an,L,c4⟩
  .obtain rfl:l=[]:=ab3.1 e0
   obtain rfl:i=0:=by simpa using hi
   exact al a 0 rfl (by simp) (by simp) (λ_=>rfl) (by simp)
  obtain⟨c,e,f,hc,hf,hs,ae⟩:=GK hr bx a7
  rw[L] at hc
  simp only[aaK,Obj.cells.injEq] at hc
  obtain⟨rfl,rfl,rfl⟩:=hc
  rw[Nat.zero_mul,acf]
  have X:∀j v,(l.map (Value.int .i64))[j]?=some v->w.cell? ⟨b,o0+j,none⟩=some v:=λj x p=>by
   have b2:j<l.length:=by
    have:=(aaO.1 p).1
    simpa using this
   rw[Bc b2] at p
   rw[ae j b2,p]
  by_cases M:l.length+1<=cap
  .have g:∀j,j<l.length+1->(w.cell? ⟨b,o0+j,none⟩).isSome=true:=λj p=>by
    rw[jk,cellAt,L];simp;omega
   have b3:∀j,j<l.length+1->w.frozen? ⟨b,o0+j,none⟩=false:=λj p=>VE L hf (by omega)
   have Y:∀ {w':World},fi w w' b->aD Z (μ.set h.length (b,o0,1)) w'.heap (.sl h.length 0 (l.length+1) 1) (.slice (some ⟨b,o0,none⟩) (l.length+1) cap):=λ{w'} hp=>by
    obtain⟨c',Q,b4⟩:=hp.cell _ _ _ L
    have:=aD.sl (Z:=Z) (μ:=μ.set h.length (b,o0,1)) (hp:=w'.heap) h.length 0 (l.length+1) 1 b o0 cap c' _ _ (by simp[Mu.set]) M Q (by omega)
    simpa using this
   have room:∀ {w':World} {l':List Int},fi w w' b->l'.length=l.length+1->(∀j,j<l.length+1->w'.cell? ⟨b,o0+j,none⟩=some (.int .i64 (l'.getD j 0))) ->
     eO Z (μ.set h.length (b,o0,1)) w'.heap (cat (h.set n .dead++[.arr 1 (aR l')]) F)/\Ext Z μ w h.length Z (μ.set h.length (b,o0,1)) w':=λhp da cu =>
    Yt hr hn W a7 hp L hf (by omega) (λj p=>cu j (by omega))
   by_cases K:i=l.length
   .have r:=PY JZ b o0 l.length cap B E 1 S [.int .i64 t] w (by omega) M (by omega) rfl (λj p=>by rw[abn];exact g _ (by omega)) (λj p=>by rw[abn];exact b3 _ (by omega)) (T d) U
    rw[K]
    refine Calls.mono (show Calls aa 142 _ w _ from r) ?_
    rintro e w' ⟨rfl,rfl⟩
    have hp:=fi.setCells b [.int .i64 t] (o0+l.length) w
    obtain⟨A,μ',f1,f2,f3,f4⟩:=fin (room hp (mE hi) λj p=>by
     rw[lI (λj p=>by rw[abn];exact g _ (by simp at p;omega)),xY hi]
     by_cases c1:j<l.length
     .rw[aaI (by omega),aaL (by omega)]
      exact ae j c1
     .obtain rfl:j=l.length:=by omega
      rw[aaL (by simp),aaI (by omega),aaL K.symm]
      simp) (Y hp)
    exact⟨_,A,μ',rfl,f1,f2,f3,f4⟩
   .have cA:B≠b:=λe=>by
     subst e
     rcases hr.inj v n _ _ _ _ _ ch J a7 with q | q
     .simp only[cat] at q;rw[aaL bl,hv] at q;simp at q
     .rw[bx] at q;simp at q
    have cC:w.shape? B=some (ev,cv.size):=by simp only[World.shape?,aq]
    obtain⟨tb,cI⟩:∃tb,w.shape? b=some (tb,c0.size):=⟨_,by unfold World.shape?;rw[L]⟩
    have r:=Lh JZ b o0 l.length cap i B E 1 S (l.map (Value.int .i64)) [.int .i64 t] w (by omega) (by omega) M (by omega) cA a6 rfl X g b3 (T d) b0 U _ _ _ _ cC cI (by omega) (by omega) (VE aq cj (by omega))
     (λw'=>∃A μ',aD A μ' w'.heap (.sl h.length 0 (l.length+1) 1) (.slice (some ⟨b,o0,none⟩) (l.length+1) cap)/\eO A μ' w'.heap (cat P F)/\Ext Z μ w h.length A μ' w'/\∀id,id<h.length∨P.length<=id->μ' id=μ id)
     (λR ab=>by
      have a8:fi w R b:=by rcases ab with rfl | rfl<;>first | exact .refl _ _ | exact .drew _ _
      have N:∀x,R.cell? x=w.cell? x:=λx=>by rcases ab with rfl | rfl<;>rfl
      have hp:=(((a8.trans (.drew _ _)).trans (fi.setCells b ((l.map (Value.int .i64)).drop i) (o0+(i+1)) _)).trans (fi.setCells b [.int .i64 t] (o0+i) _))
      refine fin (room hp (mE hi) λj p=>?_) (Y hp)
      have cN:∀k,k<l.length+1->((R.drew.setCells b (o0+(i+1)) ((l.map (Value.int .i64)).drop i)).cell? ⟨b,o0+k,none⟩).isSome=true:=λk hk=>isSome_setCells _ _ _ _ (λq O=>by
        show (R.cell? _).isSome=true
        rw[N,abn];simp at O;exact g _ (by omega)) _ (by show (R.cell? _).isSome=true;rw[N];exact g k hk)
      rw[lI (λq O=>by rw[abn];simp at O;exact cN _ (by omega)),xY hi]
      by_cases c1:j=i
      .subst c1
       rw[aaL (by simp),aaI (by omega),aaL rfl]
       simp
      .rw[aaI (by simp;omega),lI (λq O=>by
        show (R.cell? _).isSome=true
        rw[N,abn];simp at O;exact g _ (by omega))]
       by_cases c2:j<i
       .rw[aaI (by omega),aaL c2]
        show R.cell? _=_
        rw[N];exact ae j (by omega)
       .rw[aaL (by simp;omega),aaI c2,aaI c1,ab5,show i+(o0+j-(o0+(i+1)))=j-1 by omega,Bc (by omega)])
     (λR ab=>by
      have a8:fi w R b:=by rcases ab with rfl | rfl | rfl<;>first | exact .refl _ _ | exact .drew _ _ | exact(fi.drew _ _).trans (.drew _ _)
      have N:∀x,R.cell? x=w.cell? x:=λx=>by rcases ab with rfl | rfl | rfl<;>rfl
      have hp:=a8.trans (fi.setCells b [.int .i64 t] (o0+l.length) R)
      obtain⟨k1,k2⟩:=room (l':=l++[t]) hp (by simp) λj p=>by
       rw[lI (λq O=>by rw[N,abn];simp at O;exact g _ (by omega))]
       by_cases c1:j<l.length
       .rw[aaI (by omega),N,ae j c1]
        simp[abf c1]
       .obtain rfl:j=l.length:=by omega
        rw[aaL (by simp)]
        simp
      obtain⟨c',Q,b4⟩:=hp.cell _ _ _ L
      have ha:=hA.2 Z (μ.set h.length (b,o0,1)) F (R.setCells b (o0+l.length) [.int .i64 t]) [.slice (some ⟨b,o0+i,none⟩) (l.length+1-i) (cap-i),.int .i64 (1:Nat)] ⟨rfl,λq O=>by
        match q,O with
        | 0,_ =>
         have:=aD.sl (Z:=Z) (μ:=μ.set h.length (b,o0,1)) (hp:=(R.setCells b (o0+l.length) [.int .i64 t]).heap) h.length i (l.length+1-i) 1 b o0 (cap-i) c' _ _ (by simp[Mu.set]) (by omega) Q (by omega)
         simpa using this
        | 1,_=>exact .val _ rfl⟩ k1 (λid b5 b7=>by
       simp at b5
       simp only[Mu.set];rw[aaI (by omega)];exact z id (by omega) b7)
      refine Calls.mono ha ?_
      rintro e w' ⟨y,A,μ',rfl,_,g2,g3,g4⟩
      refine⟨⟨y,rfl⟩,A,μ',?_,g2,k2.trans g3 (by simp) hr.lt,λid C=>?_⟩
      .exact(Y hp).mono g3.mono
      .rw[g4 id (by simp;omega)]
       simp only[Mu.set];rw[aaI (by omega)])
    refine Calls.mono (show Calls aa 142 _ w _ from r) ?_
    rintro e w' ⟨rfl,A,μ',f1,f2,f3,f4⟩
    exact⟨_,A,μ',rfl,f1,f2,f3,f4⟩
  .by_cases K:i=l.length
   .rw[K]
    refine al _ cap K an (by omega) (λq=>by simp at q) (λad b8 j x p=>?_)
    simp only[aaK] at b8
    subst b8
    rw[Addr.add_lit]
    exact X j x p
   .have r:=Any2.slices_Insert_int_grow JZ b o0 l.length cap i B E 1 S (l.map (Value.int .i64)) [.int .i64 t] w (by omega) (by omega) an (by omega) (by omega) a6 rfl X (T d) b0 U
    refine Calls.mono (show Calls aa 142 _ w _ from r) ?_
    rintro e w' ⟨rfl,rfl⟩
    have hg:=hG w (l.length+1) cap
    generalize grownCap w (l.length+1) cap (eM.t 3)=G at hg ⊢
    generalize s:(((l.map (Value.int .i64)).take i).toArray++Builtin.zeroCells (Value.int .i64 0).cells (l.length+1-i)++Builtin.zeroCells (Value.int .i64 0).cells (G-(l.length+1)))=row
    have bn:row.size=G:=by rw[<-s];simp[Builtin.zeroCells,Value.cells];omega
    have hp:fi (w.alloc (.cells row (eM.t 3))) ((((w.alloc (.cells row (eM.t 3))).drew.setCells w.heap.size i [.int .i64 t]).drew).setCells w.heap.size (i+1) ((l.map (Value.int .i64)).drop i)) w.heap.size:=
     (((fi.drew _ _).trans (fi.setCells _ _ _ _)).trans (.drew _ _)).trans (fi.setCells _ _ _ _)
    have b9:∀k,(w.alloc (.cells row (eM.t 3))).cell? ⟨w.heap.size,k,none⟩=row[k]?:=λk=>World.cell?_alloc_at (w:=w) row (eM.t 3) w.heap.size k rfl
    have bd:∀k,k<l.length+1->((w.alloc (.cells row (eM.t 3))).cell? ⟨w.heap.size,k,none⟩).isSome=true:=λk hk=>by rw[b9];simp;omega
    obtain⟨c',Q,b4⟩:=hp.cell _ _ _ (nV (w:=w))
    have ca:∀k,k<l.length+1->(((w.alloc (.cells row (eM.t 3))).drew.setCells w.heap.size i [.int .i64 t]).cell? ⟨w.heap.size,k,none⟩).isSome=true:=λk hk=>isSome_setCells _ _ _ ((w.alloc (.cells row (eM.t 3))).drew) (λq O=>bd _ (by simp at O;omega)) _ (bd k hk)
    have k:=G2 (l':=fQ l i 0 [t]) (eff:=.eR n (.arr 1 (aR (fQ l i 0 [t])))) hr W ((jd _ _).trans hp.same) (λj p=>(hp.old j (by omega)).trans (Bg p)) Q (.inl rfl) (by rw[mE hi];omega) (λj p=>by
     rw[mE hi] at p
     rw[lI (λq O=>by simp at O;exact ca _ (by omega)),xY hi]
     by_cases c1:i+1<=j
     .rw[aaL (by simp;omega),aaI (by omega),aaI (by omega),ab5,show i+(j-(i+1))=j-1 by omega,Bc (by omega)]
     .rw[aaI (by omega)]
      show ((w.alloc (.cells row (eM.t 3))).drew.setCells w.heap.size i [.int .i64 t]).cell? _=_
      rw[lI (λq O=>by simp at O;exact bd _ (by omega))]
      by_cases c2:j=i
      .subst c2
       rw[aaL (by simp),aaI (by omega),aaL rfl]
       simp
      .rw[aaI (by simp;omega),aaL (by omega)]
       refine(b9 j).trans ?_
       rw[<-s,Array.append_assoc,abE (by simp;omega),abp,abX,aaL (by omega),Bc (by omega)]) (.inr ⟨n,rfl,live⟩)
    obtain⟨A,μ',f1,f2,f3,f4⟩:=fin k (y:=.slice (some ⟨w.heap.size,0,none⟩) (l.length+1) G) (by
     have:=aD.sl (Z:=Z) (μ:=μ.set h.length (w.heap.size,0,1)) (hp:=((((w.alloc (.cells row (eM.t 3))).drew.setCells w.heap.size i [.int .i64 t]).drew).setCells w.heap.size (i+1) ((l.map (Value.int .i64)).drop i)).heap) h.length 0 (l.length+1) 1 w.heap.size 0 G c' _ (0,0) (by simp[Mu.set]) (by omega) Q (by omega)
     simpa using this)
    exact⟨_,A,μ',rfl,f1,f2,f3,f4⟩
open Go Go.Lib Go.Proofs Go.Shelf Go.RowKit Go.Sort
set_option maxRecDepth 1000000 in
theorem Ms {P:Program} {ρ:Ren} (L:Lays2.n23 P ρ) (blk off cap i j:Nat) (d:Array Int) (w:World) (hH:Holds (Value.int .i64) w blk off d) (hcap:d.size<=cap) (hm:d.size<=9223372036854775807) (hij:i<=j) (hj:j<=d.size):
  Calls P (ρ.f 23) #[.slice (some ⟨blk,off,none⟩) d.size cap,.int .i64 i,.int .i64 j] w λe w'=>e=.returned (.slice (some ⟨blk,off,none⟩) (d.size-(j-i)) cap)/\∃q,w'=putRow (Value.int .i64) (Sort.ahead w q) blk off (d.toList.take i++d.toList.drop j++List.replicate (j-i) 0).toArray:=by
 have mixed:=L.mixed;have t0:=L.t0;have a0:=L.a0;have z0:=L.z0;have v0:=L.v0;have t3:=L.t3;have a3:=L.a3;have z3:=L.z3;have v3:=L.v3;have t4:=L.t4;have a4:=L.a4;have z4:=L.z4;have v4:=L.v4;have t22:=L.t22;have a22:=L.a22;have z22:=L.z22;have v22:=L.v22
 obtain⟨i0,hi0,hz0,hz1,hz2⟩:=info_parts L.i3
 by_cases heq:i=j
 .subst heq
  have h0:Calls P (ρ.f 23) #[.slice (some ⟨blk,off,none⟩) d.size cap,.int .i64 i,.int .i64 i] w λe w'=>e=.returned (.slice (some ⟨blk,off,none⟩) d.size cap)/\w'=w:=by
   clear hH
   go_enter L.f23,Body2.n23_ntmps ρ
   go_wp2
   all_goals (go_ret;exact⟨rfl,rfl⟩)
  refine h0.mono ?_
  rintro e w' ⟨rfl,rfl⟩
  have e:(d.toList.take i++d.toList.drop i++List.replicate (i-i) 0).toArray=d:=by simp
  refine⟨by rw[Nat.sub_self,Nat.sub_zero],0,?_⟩
  rw[e]
  exact(putRow_self (Value.int .i64) (Sort.ahead w' 0) blk off d hH).symm
 .have hlt:i<j:=by omega
  obtain⟨news,hnews⟩:∃news,news=(d.toList.drop j).map (Value.int .i64):=⟨_,rfl⟩
  have hlen:news.length=d.size-j:=by rw[hnews];simp
  have hget:∀t,t<d.size-j->news[t]?=some ((Value.int .i64) d[j+t]!):=by
   intro t ht
   rw[hnews,aaJ,ab5,acE,getElem!_pos d (j+t) (by omega),aa3 (by omega)]
   rfl
  obtain⟨A,hA,hsrc⟩:∃A:Addr,(if cap=j then some (⟨blk,off,none⟩:Addr) else some ⟨blk,off+j,none⟩)=some A/\Hid (∀t u,news[t]?=some u->w.drew.cell? (A.add t)=some u):=by
   by_cases h:cap=j
   .refine⟨⟨blk,off,none⟩,by simp[h],λt u hu=>?_⟩
    have h0:news.length=0:=by rw[hlen];omega
    rw[ab3.1 h0] at hu
    simp at hu
   .refine⟨⟨blk,off+j,none⟩,by simp[h],λt u hu=>?_⟩
    have ht:t<d.size-j:=by
     have:=(aaO.1 hu).1
     rwa [hlen] at this
    rw[hget t ht] at hu
    rw[Addr.add_lit,show off+j+t=off+(j+t) by omega]
    exact(hH (j+t) (by omega)).1.trans hu
  have s1:Hid (news.length=(d.size-j)*1):=by rw[acY];exact hlen
  have s2:Hid (∀u∈news,u.oneCell'=true):=by
   intro u hu
   rw[hnews] at hu
   obtain⟨x,_,rfl⟩:=aa4.1 hu
   rfl
  have s3:Hid (∀t,t<news.length->(w.drew.cell? ⟨blk,off+i*1+t,none⟩).isSome=true/\w.drew.frozen? ⟨blk,off+i*1+t,none⟩=false):=by
   intro t ht
   rw[hlen] at ht
   rw[acY,abn]
   exact⟨by show (w.cell? _).isSome=true;rw[(hH (i+t) (by omega)).1];rfl,(hH (i+t) (by omega)).2⟩
  obtain⟨W1,hW1⟩:∃W1,W1=w.drew.setCells blk (off+i*1) news:=⟨_,rfl⟩
  have hW1':W1=putRow (Value.int .i64) (Sort.ahead w 1) blk off (lay d i (d.toList.drop j)):=by
   rw[hW1,hnews,acY,<-putRow_setCells (Value.int .i64) (Sort.ahead w 1) blk off _ d i (by simp;omega),putRow_self (Value.int .i64) (Sort.ahead w 1) blk off d (holds_ahead (Value.int .i64) w 1 blk off d hH)]
   rfl
  have hH1:Holds (Value.int .i64) W1 blk off (lay d i (d.toList.drop j)):=by rw[hW1'];exact holds_putRow (Value.int .i64) _ blk off d _ (holds_ahead (Value.int .i64) w 1 blk off d hH) (lay_size _ _ _)
  have hcl:∀ty,(Builtin.clear_ #[ρ.t 22] ty #[.slice (some ⟨blk,off+(i+(d.size-j)),none⟩) (d.size-(i+(d.size-j))) (cap-(i+(d.size-j)))]).run P W1=.ok (.tuple #[]) (W1.setCells blk (off+(i+(d.size-j))) (List.replicate (d.size-(i+(d.size-j))) ((Value.int .i64) 0))):=
   λty=>Lib.run_clear_slice W1 _ _ ty _ t22 v3 rfl rfl blk (off+(i+(d.size-j))) _ _ (by omega) (λt ht=>by rw[show off+(i+(d.size-j))+t=off+(i+(d.size-j)+t) by omega,(hH1 _ (by rw[lay_size];omega)).1];rfl) (λt ht=>by rw[show off+(i+(d.size-j))+t=off+(i+(d.size-j)+t) by omega];exact(hH1 _ (by rw[lay_size];omega)).2)
  have X:Aside (W1=putRow (Value.int .i64) (Sort.ahead w 1) blk off (lay d i (d.toList.drop j))):=hW1'
  have hW:Hid (W1=w.drew.setCells blk (off+i*1) news):=hW1
  have hic:i<=cap:=by omega
  have hjc:j<=cap:=by omega
  clear hW1 hW1' hH1 hH hget hnews hlen
  go_enter L.f23,Body2.n23_ntmps ρ
  go_wp2_with fail
  go_region_law_o (refine step_append_room rfl (.tmp 22) (.tmp 25) (ρ.t 22) rfl (ρ.t 3) i0 1 t22 hi0 hz1 blk off i cap (by simp[Act.eval,Act.put]) A (d.size-j) (cap-j) news (by simp[Act.eval,Act.put]) s1.out hsrc.out s2.out (by omega) s3.out ?_;rw[<-hW.out])
  go_wp2
  go_ret
  refine⟨by rw[show d.size-(j-i)=i+(d.size-j) by omega];rfl,1,?_⟩
  rw[<-delete_arr d i j 0 hij hj,<-putRow_setCells (Value.int .i64) _ blk off _ _ (i+(d.size-j)) (by rw[lay_size];simp;omega),<-X.out,List.map_replicate,show d.size-(i+(d.size-j))=j-i by omega]
open Go Go.Lib Go.Proofs Go.Shelf Go.RowKit Go.Sort
theorem DN {l:List Int} {p:Nat} (hp:p<l.length):(fQ l p 1 []).length=l.length-1:=by
 unfold fQ;simp;omega
theorem P3:Pn:=by
 intro H u l p O hp W
 refine⟨by kernel_rfl,?_⟩
 rintro h rfl
 obtain⟨n,rfl,z⟩:=O.sl (by simp;omega)
 simp only[aaM] at *
 have i:n<h.length:=fa (by rw[z];simp)
 refine⟨.sl n 0 (l.length-1) 1,h.set n (.arr 1 (aR (fQ l p 1 []))),⟨by simp,λZ μ F w xs v hr A=>?_⟩,λk hk s=>?_,?_,?_⟩
 rotate_left
 .rw[gC i]
  simp only[View.set]
  rw[aaI (λe=>by rw[e,z] at s;simp at s)];exact s
 .exact .inr ⟨n,by rw[aaM,DN hp],by rw[gC i];simp[View.set]⟩
 .intro id P hu
  have M:id≠n:=λe=>hu (by rw[e];rfl)
  rw[gC i]
  exact⟨by simp only[View.set];rw[aaI M],λe=>M (by simp[owner] at e;exact e.symm)⟩
 obtain⟨hlen,B⟩:=v
 obtain⟨C,D,E,rfl⟩:∃C D E,xs=[C,D,E]:=by
  match xs,hlen with
  | [a,b,c],_=>exact⟨a,b,c,rfl⟩
 have Q:aD Z μ w.heap (.sl n 0 l.length 1) C:=B 0 (by simp)
 have h1:aD Z μ w.heap (gi p) D:=B 1 (by simp)
 have R:aD Z μ w.heap (gi ((p:Int)+1)) E:=B 2 (by simp)
 obtain rfl:=fc h1
 obtain rfl:=fc R
 rcases Hp Q with ⟨e,_⟩ | ⟨b,o0,cap,c0,X,f0,rfl,r,x,m,S⟩
 .omega
 have G:cat h F n=.arr 1 (aR l):=by simp only[cat];rw[aaL i,z]
 obtain⟨c,e,f,I,N,Y,J⟩:=GK hr G r
 rw[m] at I
 simp only[aaK,Obj.cells.injEq] at I
 obtain⟨rfl,rfl,rfl⟩:=I
 have hH:Holds (Value.int .i64) w b o0 l.toArray:=λj t=>by
  have t:j<l.length:=by simpa using t
  refine⟨?_,VE m N (by omega)⟩
  rw[J j t]
  simp[t]
 have g:=Ms aak b o0 cap p (p+1) l.toArray w hH (by simpa using x) (by simp;omega) (by omega) (by simp;omega)
 rw[show ((p+1:Nat):Int)=(p:Int)+1 by omega] at g
 simp only[ab1,Nat.zero_mul,acf] at g ⊢
 refine Calls.mono (show Calls aa 144 _ w _ from g) ?_
 rintro e w' ⟨rfl,q,rfl⟩
 generalize s:(l.take p++l.drop (p+1)++List.replicate (p+1-p) 0).toArray=d
 have K:d.size=l.length:=by rw[<-s];simp;omega
 have y:fi w (putRow (Value.int .i64) (Sort.ahead w q) b o0 d) b:=(fi.ahead w b q).trans (fi.map _ _ _ (λc=>by simp[putCells]))
 have o:Holds (Value.int .i64) (putRow (Value.int .i64) (Sort.ahead w q) b o0 d) b o0 d:=holds_putRow _ _ b o0 l.toArray d (holds_ahead _ w q b o0 _ hH) (by simp[K])
 obtain⟨T,k2⟩:=YH (l':=fQ l p 1 []) hr z r y m N (by rw[DN hp];omega) (λj t=>by
  rw[DN hp] at t
  rw[(o j (by omega)).1,<-s]
  unfold fQ
  congr 2
  rw[getElem!_pos _ j (by simp;omega)]
  simp only[List.getElem_toArray,abD,aaG]
  rw[List.getElem_append_left (by simp;omega),aaH (by simp;omega),aaZ])
 obtain⟨U,L,V⟩:=y.cell _ _ _ m
 refine⟨_,Z,μ,rfl,?_,T,k2,λ_ _=>rfl⟩
 have:=aD.sl (Z:=Z) (μ:=μ) (hp:=(putRow (Value.int .i64) (Sort.ahead w q) b o0 d).heap) n 0 (l.length-1) 1 b o0 cap U _ _ r (by omega) L (by omega)
 simpa using this
theorem ow {g:aj} (a:g.Small):g.ax.length<=1000:=by have:=a.names;omega
theorem Ck (g:aj) (d:g.Ok) (a:g.Small) (m:Int):aC aa 41 [.agg (ak g),gi m] (Cu (iJ g m)):=
 VN EH P3 g d a m (λb c=>by
  obtain⟨h1,e,f,h⟩:=Ot (ow a) c
  exact⟨by omega,e,f,h⟩) (by have:=(vQ g).1;omega) (ow a) λhm b c x i j=>Vq hm c i j
theorem A7 (g:aj) (a:g.Ok) (b:g.Small) (w:List Int) (hw:aI w) (c:∀x∈w,bp x) (p t m:Int) (d:bp t):
 cd aa 38 [.agg (ak g),encI w,gi p,gi t,gi m] (Hh (qK g w p t m)):=V5 EH g a b w hw c p t m d
noncomputable def Xy:List (FuncId × DF):=zC aa [(36,[]),(26,[])]
theorem PJ:sw aa Xy:=vR _ _
noncomputable def Wp:List Hj:=[(44,[Eg RD],uR dr,false),(44,[Eg WL],uR kD,false),
 (38,[.agg (ak dr),encI [0,1],gi 1,gi 0,gi 5],Hh (([0,0],true),0),false),(38,[.agg (ak kD),encI [0],gi 0,gi 0,gi 5],Hh (([],false),0),false),(38,[.agg (ak dr),encI [0],gi 2,gi 0,gi 5],Hh (([],false),1),false),
 (41,[.agg (ak dr),gi 9],Cu (Fc,0),true),(41,[.agg (ak u7),gi 9],Cu ([],1),true)]
theorem We:∀x∈Wp,x.Ok aa:=by
 intro x a
 simp only[Wp,aa1,List.not_mem_nil,or_false] at a
 rcases a with rfl | rfl | rfl | rfl | rfl | rfl | rfl
 .exact⟨by kernel_rfl,.inl Yb⟩
 .exact⟨by kernel_rfl,.inl Zn⟩
 .exact⟨by kernel_rfl,.inl (YD▸A7 dr BA vT [0,1] (by unfold aI;decide) (by unfold bp;decide) 1 0 5 (by unfold bp;decide))⟩
 .exact⟨by kernel_rfl,.inl (Zb▸A7 kD Jh.1 Jh.2 [0] (by unfold aI;decide) (by unfold bp;decide) 0 0 5 (by unfold bp;decide))⟩
 .exact⟨by kernel_rfl,.inl (XA▸A7 dr BA vT [0] (by unfold aI;decide) (by unfold bp;decide) 2 0 5 (by unfold bp;decide))⟩
 .exact⟨by kernel_rfl,Tm▸Ck dr BA vT 9⟩
 .exact⟨by kernel_rfl,Zk▸Ck u7 Ya ⟨by decide⟩ 9⟩
theorem Pt:aC aa 36 [] (gb true):=
 (pT mixed PJ (LF We) (by simp) (by kernel_rfl)).pure
def lW:SC:=
 ai [ai [ag [af 33 8,af 34 6,aM 35 34,aS 36 .lss 33 35],bQ 36 (.exit 0)],.block 1 (ai [ag [aU 40 4 2,af 41 6,af 42 8,aK 43 3 41 42,aw 44 2 43,au 45 44,aV 46 35 [40,45],af 39 46,du 47 0 39,du 48 1 39,af 9 47,af 10 48],.region false [⟨none,[af 49 9,af 50 49]⟩,⟨(some (50,false)),[af 51 10,aH 52 .neq 51 0]⟩,⟨none,[cG 53 50 52,af 54 53]⟩,⟨(some (54,false)),[af 55 6,af 56 8,aK 57 3 55 56,aw 58 2 57,au 59 58,aM 60 59,af 61 5,aS 62 .gtr 60 61]⟩,⟨none,[cG 63 54 62,af 64 63]⟩,⟨(some (64,false)),[af 65 6,af 66 8,aK 67 3 65 66,aw 68 0 67,au 69 68,aH 70 .neq 69 2]⟩,⟨none,[cG 71 64 70,af 72 71]⟩,⟨(some (72,false)),[af 73 8,aH 74 .gtr 73 0,af 75 74]⟩,⟨(some (75,true)),[af 76 6,af 77 8,aH 78 .sub 77 1,aK 79 3 76 78,aw 80 1 79,au 81 80,af 82 6,af 83 8,aK 84 3 82 83,aw 85 1 84,au 86 85,aS 87 .gtr 81 86]⟩,⟨(some (72,false)),[dQ 88 75 87]⟩,⟨none,[cG 89 72 88]⟩],aX 89 (ai [ag [bh 4 false],.ret])]),ag [af 37 8,aH 38 .add 37 1,af 8 38]]
def nC:SF:=⟨ai [ag [cg 2 0,bh 4 false],ai [ag [aV 11 36 [],cX 12 11],aX 12 (ai [ag [bh 4 false],.ret])],ai [.region false [⟨none,[aU 13 4 2,aV 14 14 [13],af 15 14]⟩,⟨(some (15,false)),[aU 16 4 2,aV 17 40 [16]]⟩,⟨none,[cG 18 15 17]⟩],aX 18 (ai [ag [bh 4 true],.ret])],ag [af 19 1,((some 20),.op (.conv .i64 (.tmp 19))),aH 21 .rem 20 61,af 5 21],ag [aU 23 4 2,af 24 5,aV 25 41 [23,24],af 22 25,du 26 0 22,du 27 1 22,af 6 26,af 7 27],ai [ag [af 28 7,aH 29 .neq 28 0],aX 29 (ai [ag [af 30 6,aM 31 30,aH 32 .eql 31 0,af 4 32],.ret])],ai [ag [aT 8 0],bS 0 lW],ag [bh 4 true],.ret],
 [.tmp 4],90⟩
theorem tT:aJ aa 11 [2]=some nC:=by kernel_rfl
theorem MB (g:aj) (c:g.Ok) (a:g.Small):aC aa 40 [.agg (ak g)] (gb (JV g)):=
 QE g c (by have:=(vQ g).1;omega) (ow a) λb d=>by have:=(Ot (ow a) d).1;unfold aI;omega
theorem Sb {g:aj} {m:Int} : (iJ g m).1.length<=2000/\(∀c∈(iJ g m).1,c.2.length<=61/\lk g c.2 m=true/\(∀x∈c.2,0<=x/\x<g.ax.length)/\bt g=true/\m<=60)/\(iJ g m).1.Pairwise (λa b=>a.1<=b.1)/\((iJ g m).2≠0->(iJ g m).1=[]):=by
 unfold iJ
 split
 .rename_i h1
  split
  .simp
  .rename_i k
   have k:(cZ g).2=0:=acs.1 k
   split
   .simp
   .rename_i t
    refine⟨by simp only;omega,λc e=>?_,?_,λh=>absurd rfl h⟩
    .obtain⟨b,p,e⟩:=acB.1 e
     obtain⟨i,_,o⟩:=Bw p
     unfold gI at e
     obtain⟨x,d,rfl⟩:=aa4.1 e
     have l:=Va d
     have k2:=Pm o.ax d
     have q:=(Bj o.right k2 h1.2.2).1 l
     exact⟨by have:=q.1;have:=h1.2.2;simp only;omega,l,k2,o.right,h1.2.2⟩
    .have hp:(cZ g).1.Pairwise λa b=>a.state<=b.state:=by
      rw[List.pairwise_iff_getElem]
      intro i j hi r s
      rw[(AX (aaH hi)).1.state,(AX (aaH r)).1.state]
      omega
     rw[List.pairwise_flatMap]
     refine⟨λb _=>?_,hp.imp λ{a b} f x d y n=>?_⟩
     .unfold gI
      rw[acX]
      exact List.pairwise_of_forall λ_ _=>Int.le_refl _
     .unfold gI at d n
      obtain⟨_,_,rfl⟩:=aa4.1 d
      obtain⟨_,_,rfl⟩:=aa4.1 n
      exact f
 .simp
theorem Mk (g:aj) (s:g.Ok) (n:Int) (t:0<=n) (D:n<=255):aC aa 11 [.agg (ak g),.val (.int .u8 n)] (gb true):=by
 refine aC.val (Xe g .u8 n) λH=>?_
 refine az.of mixed tT ?_
 simp(disch:=omega)only[↓wr,seval,wq,nC,ak,encS]
 refine ay.pure Pt ?_
 simp(disch:=omega)only[↓wr,seval,wq]
 refine ay.pure (UA g) ?_
 simp(disch:=omega)only[↓wr,seval,wq]
 apply ao.split<;>intro e
 .simp(disch:=omega)only[↓wr,seval,wq]
 have u:=MH e
 have v:=MB g s u
 obtain⟨m,hm,E,F⟩:∃m:Int,n.tmod 61=m/\0<=m/\m<=60:=by
  have h1:=Int.tmod_nonneg (61:Int) t
  have r:=Int.tmod_lt_of_pos n (show (0:Int)<61 by omega)
  exact⟨_,rfl,h1,by omega⟩
 have h1:=Ck g s u m
 obtain⟨G,k2,w,z⟩:=Sb (g:=g) (m:=m)
 have O:=ow u
 have r:=λ(c:Int × List Int) (a:c∈(iJ g m).1)=>V7 g s c.2 (by have:=(k2 c a).1;unfold aI;omega) (λx b=>by have:=(k2 c a).2.2.1 x b;unfold bp;omega)
 have A:∀c∈(iJ g m).1,k5 g c.2=(false,0)/\(c.2.length:Int)<=m:=λc a=>by
  obtain⟨_,a2,a3,a4,a5⟩:=k2 c a
  obtain⟨B,I⟩:=(Bj a4 a3 a5).1 a2
  exact⟨by rw[CE a4 a3 a5 B,I],B⟩
 replace k2:∀c∈(iJ g m).1,c.2.length<=61:=λc a=>(k2 c a).1
 generalize iJ g m=y at *
 obtain⟨l,f⟩:=y
 simp only at G k2 w z r A
 simp only[ak,encS] at v h1 r
 simp(disch:=omega)only[↓wr,seval,wq]
 refine ay.pure v ?_
 simp(disch:=omega)only[↓wr,seval,wq]
 apply ao.split<;>intro J
 .simp(disch:=omega)only[↓wr,seval,wq]
 simp(disch:=omega)only[↓wr,seval,wq,hm]
 refine ay.pure h1 ?_
 simp(disch:=omega)only[↓wr,seval,wq,Cu]
 apply ao.ne<;>intro C
 .rw[z C]
  simp(disch:=omega)only[↓wr,seval,wq]
 simp(disch:=omega)only[↓wr,seval,wq]
 refine aW.up l.length (λi T H'=>T 2=.aP (ak g) 0/\T 5=gi m/\T 6=.aZ (l.map r8)/\T 8=gi i) ⟨rfl,rfl,rfl,rfl⟩ ?_
 rintro i k T H1 hk ⟨t2,t5,t6,t8⟩
 simp(disch:=omega)only[↓wr,seval,wq,lW,t6,t8]
 apply ao.dec<;>intro a
 rotate_left
 .simp(disch:=omega)only[↓wr,seval,wq]
 have b:l[i]?=some (l[i]'(by omega)):=aaH (by omega)
 have o:=aaV b
 have h:∀j:Nat,j+1=i->∃d,l[j]?=some d/\¬ (l[i]'(by omega)).1<d.1:=λj P=>by
  refine⟨l[j]'(by omega),aaH (by omega),?_⟩
  have:=List.pairwise_iff_getElem.1 w j i (by omega) (by omega) (by omega)
  omega
 generalize l[i]'(by omega)=c at *
 obtain⟨K,Q⟩:=A c o
 have p:=r c o
 rw[K] at p
 have q:cE (encI c.2)=some c.2.length:=by simp[cE,encI]
 simp(disch:=omega)only[↓wr,seval,wq,t2,t6,t8,aaJ,b,r8,ak,encS]
 refine ay.pure p ?_
 simp(disch:=omega)only[↓wr,seval,wq,B1,t5,t6,t8,aaJ,b,r8,q]
 refine ao.dec (λd1=>absurd d1 (by omega)) (λd1=>?_)
 simp(disch:=omega)only[↓wr,seval,wq,t6,t8,aaJ,b,r8]
 cases i with
 | zero =>
  simp(disch:=omega)only[↓wr,seval,wq,t8]
  exact aE hk (by omega) ⟨t2,t5,t6,rfl⟩
 | succ j =>
  obtain⟨d,L,M⟩:=h j rfl
  have N:(((j+1:Nat):Int)-1).toNat=j:=by omega
  refine ao.dec (λd2=>?_) (λd2=>absurd d2 (by omega))
  simp(disch:=omega)only[↓wr,seval,wq,t6,t8,aaJ,b,L,N,r8]
  refine ao.dec (λd3=>absurd d3 (by omega)) (λd3=>?_)
  simp(disch:=omega)only[↓wr,seval,wq,t8]
  exact aE hk (by omega) ⟨t2,t5,t6,rfl⟩
end Gv

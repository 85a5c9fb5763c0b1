/- Part 13 of the proof of RulesRoomMatchSpec. -/
import Derived.Test.YtfloceomobknoaaGreatDoorR12
set_option linter.unusedVariables false
set_option linter.unusedSimpArgs false
set_option maxRecDepth 100000
set_option maxHeartbeats 8000000
namespace Go
abbrev ajd:=@List.any_eq_false
end Go
namespace Go.Proofs.YtfloceomobknoaaGreatDoor
namespace M
open Reg (ae an aS fS Piece BR bE cv told aB bO aa through fT aC ahD bN uo nM a_ coreS at')
def ahF:List (Int×List an)->Int->List an
 | [],_=>[]
 | (k,s)::r,c=>if k=c then s else ahF r c
def aje(l:List (Int×List an))(c:Int):Bool:=l.any fun p=>decide (p.1=c)
def ah6:List (Int×List an)->Int->List an->List (Int×List an)
 | [],c,s=>[(c,s)]
 | (k,u)::r,c,s=>if k=c then (k,s)::r else (k,u)::ah6 r c s
def aih(layer:Int)(l:List (Int×List an))(a:sJ):List (Int×List an):=if onB a layer=true then ah6 l a.clearance (uo (ahF l a.clearance) (aB a.region)) else l
def byZ(layer:Int)(al:List sJ)(l:List (Int×List an)):List (Int×List an):=al.foldl (aih layer) l
theorem aiv(layer:Int)(a:sJ)(z:List sJ)(l:List (Int×List an)):byZ layer (a::z) l=byZ layer z (aih layer l a):=rfl
def aip(lv:List Int):Nat->Nat->Nat->Nat
 | 0,k,_=>k
 | n+1,k,i=>if i<lv.length then aip lv n (if lv.getD k 0<lv.getD i 0 then i else k) (i+1) else k
def aiM(lv:List Int):List Int:=(lv.set (aip lv lv.length 0 0) (lv.getD (lv.length-1) 0)).take (lv.length-1)
def ah5(lv:List Int):Int:=lv.getD (aip lv lv.length 0 0) 0
def ahU(L:List (Int×List an)):Nat->List Int->List an->List (Int×List an)
 | 0,_,rest=>[(-1,rest)]
 | n+1,lv,rest=>if lv.length=0 then [(-1,rest)] else (ah5 lv,nM rest (ahF L (ah5 lv)))::ahU L n (aiM lv) (bN rest (ahF L (ah5 lv)))
def ahX(r:cP)(layer:Int)(all:List an):List (Int×List an):=ahU (byZ layer r.areas []) (byZ layer r.areas []).length ((byZ layer r.areas []).map (·.1)) all
def aiw(r:cP)(of:List Int)(nets:List ByteArray)(net:ByteArray)(k:Nat)(x:aS):List an:=
 if of.getD k 0<0\/aft nets (of.getD k 0)≠net then a_ (aB [aa x]) r.clearance r.clearance r.clearance r.clearance else aB [aa x]
def ahN(r:cP)(of:List Int)(nets:List ByteArray)(net:ByteArray)(layer:Int):Nat->List aS->List an->List an
 | _,[],s=>s
 | k,x::t,s=>ahN r of nets net layer (k+1) t (if through x layer=true then bN s (aiw r of nets net k x) else s)
def ahy(r:cP)(net other:ByteArray)(z:Int):Int:=if z<0 then max (ae2 r net) (ae2 r other) else z
def ah2(r:cP)(of:List Int)(nets:List ByteArray)(net:ByteArray)(layer z:Int)(k:Nat)(p:Piece)(s:List an):List an:=
 if p.layer≠layer\/aft nets (of.getD k 0)=net then s else bN s (a_ p.set (ahy r net (aft nets (of.getD k 0)) z) (ahy r net (aft nets (of.getD k 0)) z) (ahy r net (aft nets (of.getD k 0)) z) (ahy r net (aft nets (of.getD k 0)) z))
def ay(r:cP)(of:List Int)(nets:List ByteArray)(net:ByteArray)(layer z:Int):Nat->List Piece->List an->List an
 | _,[],s=>s
 | k,p::t,s=>ay r of nets net layer z (k+1) t (ah2 r of nets net layer z k p s)
def aii(r:cP)(of:List Int)(nets:List ByteArray)(net:ByteArray)(layer:Int)(ps:List Piece):List (Int×List an)->List an->List an
 | [],out=>out
 | z::t,out=>aii r of nets net layer ps t (uo out (ay r of nets net layer z.1 0 ps z.2))
def ah8(r:cP)(a:fS)(nets:List ByteArray)(net:ByteArray)(layer:Int):List an:=ahN r (aC a).ofBore nets net layer 0 a.bores (coreS (aB a.outline) r.edge r.edge r.edge r.edge)
def ahT(r:cP)(a:fS)(nets:List ByteArray)(net:ByteArray)(layer:Int):List an:=aii r (aC a).ofPiece nets net layer (aC a).pieces (ahX r layer (ah8 r a nets net layer)) []
def ah3(r:cP)(a:fS)(nets:List ByteArray)(net:ByteArray)(layer:Int):Int:=
 if aeJ r a nets≠0 then aeJ r a nets else
 if net=M4\/afe net=false then 5 else
 if Reg.within layer 0 ((a.coppers.length:Int)-1)=true then 0 else 1
def aic(r:cP)(a:fS)(nets:List ByteArray)(net:ByteArray)(layer:Int):List ae×Int:=if ah3 r a nets net layer=0 then gx (ahT r a nets net layer) else ([],ah3 r a nets net layer)
def aix(r:cP)(a:fS)(nets:List ByteArray)(net:ByteArray)(layer:Int)(more:List ae):Bool×Int:=
 if ah3 r a nets net layer=0 then (if (gx (ahT r a nets net layer)).2=0 then (if Reg.aF more=0 then (decide (bN (aB more) (ahT r a nets net layer)=[])&&decide (ahD (aB more) (E3 r net)=[]),0) else (false,Reg.aF more)) else (false,(gx (ahT r a nets net layer)).2)) else (false,ah3 r a nets net layer)
structure Sub(K:Int)(s all:List an):Prop where
 sok:bE s
 ink:cv K s
 sub:∀x y,at' s x y=true->at' all x y=true
variable {s:List an}
theorem Sub.refl{K:Int}(h:bE s)(k:cv K s):Sub K s s:=⟨h,k,fun _ _ h=>h⟩
variable {all:List an}
theorem Sub.less{K:Int}{b:List an}(h:Sub K s all)(hb:bE b):Sub K (bN s b) all/\∀x y,at' (bN s b) x y=true->at' s x y=true/\at' b x y=false:=by
 obtain⟨l1,l2,_⟩:=Reg.b6 h.sok hb;have e:∀x y,at' (bN s b) x y=true->at' s x y=true/\at' b x y=false:=fun x y z=>by
  rw[l2]at z;simpa using z
 exact⟨⟨l1,I1 h.sok hb h.ink,fun x y z=>h.sub x y (e x y z).1⟩,e⟩
theorem Sub.and{K:Int}{b:List an}(h:Sub K s all)(hb:bE b):Sub K (nM s b) all:=by
 obtain⟨l1,l2,_⟩:=Reg.Ky h.sok hb;have e:∀x y,at' (nM s b) x y=true->at' s x y=true:=fun x y z=>by
  rw[l2]at z;simp only[aaZ]at z;exact z.1
 exact⟨l1,Dd l1 h.sok h.ink e,fun x y z=>h.sub x y (e x y z)⟩
def ah4(l:List (Int×List an)):Prop:=∀p∈l,(0<=p.1/\p.1<=100000)/\bE p.2/\cv 1000000 p.2
theorem ah1{l:List (Int×List an)}(h:ah4 l)(c:Int):bE (ahF l c)/\cv 1000000 (ahF l c):=by
 induction l with
 | nil=>exact⟨trivial,fun b hb=>by cases hb⟩
 | cons p l ih=>
  obtain⟨k,s⟩:=p;rw[ahF];split
  ·exact (h (k,s) adU).2
  exact ih fun q z=>h q (aaw _ z)
theorem ajU{l:List (Int×List an)}(h:ah4 l){c:Int}(J:0<=c/\c<=100000)(z:bE s)(hk:cv 1000000 s):ah4 (ah6 l c s):=by
 induction l with
 | nil=>exact fun p hp=>by rw[ah6,ab_]at hp;subst hp;exact⟨J,z,hk⟩
 | cons q l ih=>
  obtain⟨k,u⟩:=q;rw[ah6];have D:=h (k,u) adU;have I:ah4 l:=fun p hp=>h p (aaw _ hp);split
  ·intro p hp;rcases adq.1 hp with e | hp
   ·subst e;exact⟨D.1,z,hk⟩
   exact I p hp
  intro p hp;rcases adq.1 hp with e | hp
  ·subst e;exact D
  exact ih I p hp
theorem air{l:List (Int×List an)}(h:ah4 l){a:sJ}(layer:Int)(z:Reg.aF a.region=0/\cL a.clearance=true):ah4 (aih layer l a):=by
 rw[aih];split
 ·obtain⟨D,I⟩:=ah1 h a.clearance;obtain⟨J,L⟩:=xS z.1;have:=z.2;simp only[cL,aaZ,aaH]at this;obtain⟨N,_,O⟩:=Reg.kH D J;exact ajU h ⟨by omega,by omega⟩ N (O _ I L)
 exact h
theorem aiy{layer:Int}:∀{z:List sJ} {l:List (Int×List an)},ah4 l->(∀a∈z,Reg.aF a.region=0/\cL a.clearance=true)->ah4 (byZ layer z l)
 | [],l,h,_=>h
 | a::z,l,h,ha=>by
  rw[aiv];exact aiy (air h layer (ha a adU)) fun b hb=>ha b (aaw _ hb)
theorem aiI{lv:List Int}:∀{n k i:Nat},k<lv.length->aip lv n k i<lv.length
 | 0,k,i,h=>h
 | n+1,k,i,h=>by
  rw[aip];split
  ·rename_i g;exact aiI (by split<;>omega)
  exact h
theorem aiN{lv:List Int}(h:lv.length≠0):(aiM lv).length=lv.length-1:=by
 rw[aiM,aat,aaM];omega
theorem ajl{lv:List Int}{i:Nat}(h:i<lv.length):lv.getD i 0∈lv:=by
 rw[aav,acg h];exact adn h
theorem aiO{lv:List Int}(h:lv.length≠0):∀x∈aiM lv,x∈lv:=fun x z=>by
 have:=acM z;rcases abg this with e | e
 ·exact e
 subst e;exact ajl (by omega)
theorem aiP{lv:List Int}(h:lv.length≠0):ah5 lv∈lv:=ajl (aiI (by omega))
def ajf(all:List an)(z:Int×List an):Prop:=(z.1=-1\/(0<=z.1/\z.1<=100000))/\Sub 1000000 z.2 all
theorem aiQ{L:List (Int×List an)}(I:ah4 L):∀{n:Nat} {lv:List Int} {rest:List an},(∀c∈lv,0<=c/\c<=100000)->Sub 1000000 rest all->∀z∈ahU L n lv rest,ajf all z
 | 0,lv,rest,_,hr,z,D=>by
  rw[ahU,ab_]at D;subst D;exact⟨.inl rfl,hr⟩
 | n+1,lv,rest,J,hr,z,D=>by
  rw[ahU]at D;split at D
  ·rw[ab_]at D;subst D;exact⟨.inl rfl,hr⟩
  rename_i g;obtain⟨N,_⟩:=ah1 I (ah5 lv);rcases adq.1 D with e | D
  ·subst e;exact⟨.inr (J _ (aiP g)),hr.and N⟩
  exact aiQ I (fun c O=>J c (aiO g c O)) (hr.less N).1 z D
theorem aij{r:cP}(J:zd r)(layer:Int)(D:bE all)(hk:cv 1000000 all):∀z∈ahX r layer all,ajf all z:=by
 have I:ah4 (byZ layer r.areas []):=aiy (fun p hp=>by cases hp) fun a D=>(J.ar a D).2;exact aiQ I (fun c L=>by obtain⟨p,hp,rfl⟩:=adS.1 L;exact (I p hp).1) (Sub.refl D hk)
theorem ajm{r:cP}(h:r.areas=[])(layer:Int)(all:List an):ahX r layer all=[(-1,all)]:=by
 rw[ahX,h];rfl
theorem aj_(h:bE s){n:Int}(z:0<=n)(x y:Int)(D:at' s x y=true):at' (a_ s n n n n) x y=true:=by
 rw[(Reg.bW h z z z z).2.1];exact⟨x,y,D,by omega,by omega,by omega,by omega⟩
theorem ajV{r:cP}(I:zd r)(of:List Int)(nets:List ByteArray)(net:ByteArray)(k:Nat){x:aS}(J:bO x=true):bE (aiw r of nets net k x)/\cv 1110000 (aiw r of nets net k x)/\∀u v,at' (aB [aa x]) u v=true->at' (aiw r of nets net k x) u v=true:=by
 have L:=I.nums;simp only[gM,cL,aaZ,aaH]at L;obtain⟨z,D⟩:=gz J;rw[aiw];split
 ·obtain⟨N,_,O⟩:=Reg.bW z (l:=r.clearance) (r:=r.clearance) (d:=r.clearance) (u:=r.clearance) (by omega) (by omega) (by omega) (by omega);exact⟨N,O 1010000 100000 D (by omega) (by omega) (by omega) (by omega),fun u v h=>aj_ z (by omega) u v h⟩
 exact⟨z,Reg.cv.up (by omega) D,fun u v h=>h⟩
theorem ah7{r:cP}(L:zd r){of:List Int}{nets:List ByteArray}{net:ByteArray}{layer:Int}:∀{t:List aS} {k:Nat} {s:List an},(∀b∈t,bO b=true)->Sub 1000000 s all ->
  Sub 1000000 (ahN r of nets net layer k t s) all/\(∀x y,at' (ahN r of nets net layer k t s) x y=true->at' s x y=true)/\∀b∈t,through b layer=true->∀x y,at' (ahN r of nets net layer k t s) x y=true->at' (aB [aa b]) x y=false
 | [],k,s,_,h=>⟨h,fun _ _ h=>h,fun b hb=>by cases hb⟩
 | x::t,k,s,hb,h=>by
  obtain⟨e1,e2,R⟩:=ajV L of nets net k (hb x adU);rw[ahN];by_cases c:through x layer=true
  ·rw[aap c];obtain⟨l1,l2⟩:=h.less e1;obtain⟨N,J,O⟩:=ah7 L (t:=t) (k:=k+1) (of:=of) (nets:=nets) (net:=net) (layer:=layer) (fun b h=>hb b (aaw _ h)) l1;refine⟨N,fun u v I=>(l2 u v (J u v I)).1,fun b z D u v I=>?_⟩;rcases adq.1 z with e | z
   ·subst e;have:=(l2 u v (J u v I)).2;cases e:at' (aB [aa b]) u v with
    | false=>rfl
    | true=>rw[R u v e]at this;cases this
   exact O b z D u v I
  rw[aaa c];obtain⟨N,J,O⟩:=ah7 L (t:=t) (k:=k+1) (of:=of) (nets:=nets) (net:=net) (layer:=layer) (fun b h=>hb b (aaw _ h)) h;refine⟨N,J,fun b z D u v I=>?_⟩;rcases adq.1 z with e | z
  ·subst e;exact absurd D c
  exact O b z D u v I
theorem aiz{r:cP}(D:zd r)(net other:ByteArray){z:Int}(hz:z=-1\/(0<=z/\z<=100000)):0<=ahy r net other z/\ahy r net other z<=100000:=by
 have h1:=aie D net;have h2:=aie D other;rw[ahy];split<;>omega
theorem ai0{r:cP}(J:zd r){of:List Int}{nets:List ByteArray}{net:ByteArray}{layer z:Int}(L:z=-1\/(0<=z/\z<=100000)){k:Nat}{p:Piece}(hp:bE p.set)(h:Sub 1000000 s all):
  Sub 1000000 (ah2 r of nets net layer z k p s) all/\(∀x y,at' (ah2 r of nets net layer z k p s) x y=true->at' s x y=true)/\(p.layer=layer->aft nets (of.getD k 0)≠net->∀x y,at' (ah2 r of nets net layer z k p s) x y=true->at' (a_ p.set (ahy r net (aft nets (of.getD k 0)) z) (ahy r net (aft nets (of.getD k 0)) z) (ahy r net (aft nets (of.getD k 0)) z) (ahy r net (aft nets (of.getD k 0)) z)) x y=false):=by
 rw[ah2];by_cases c:p.layer≠layer\/aft nets (of.getD k 0)=net
 ·rw[aap c];refine⟨h,fun _ _ h=>h,fun N O=>?_⟩;rcases c with c | c
  ·exact absurd N c
  exact absurd c O
 rw[aaa c];obtain⟨D,n2⟩:=aiz J net (aft nets (of.getD k 0)) L;obtain⟨R,_,_⟩:=Reg.bW hp D D D D;obtain⟨l1,l2⟩:=h.less R;exact⟨l1,fun x y I=>(l2 x y I).1,fun _ _ x y I=>(l2 x y I).2⟩
theorem ahQ{r:cP}(L:zd r){of:List Int}{nets:List ByteArray}{net:ByteArray}{layer z:Int}(N:z=-1\/(0<=z/\z<=100000)):∀{t:List Piece} {k:Nat} {s:List an},(∀p∈t,bE p.set)->Sub 1000000 s all ->
  Sub 1000000 (ay r of nets net layer z k t s) all/\(∀x y,at' (ay r of nets net layer z k t s) x y=true->at' s x y=true)/\∀(j:Nat) p,t[j]?=some p->p.layer=layer->aft nets (of.getD (k+j) 0)≠net->∀x y,at' (ay r of nets net layer z k t s) x y=true->at' (a_ p.set (ahy r net (aft nets (of.getD (k+j) 0)) z) (ahy r net (aft nets (of.getD (k+j) 0)) z) (ahy r net (aft nets (of.getD (k+j) 0)) z) (ahy r net (aft nets (of.getD (k+j) 0)) z)) x y=false
 | [],k,s,_,h=>⟨h,fun _ _ h=>h,fun j p D=>by simp at D⟩
 | q::t,k,s,hp,h=>by
  obtain⟨e1,e2,R⟩:=ai0 L (of:=of) (nets:=nets) (net:=net) (layer:=layer) N (k:=k) (hp q adU) h;rw[ay];obtain⟨U,O,V⟩:=ahQ L (of:=of) (nets:=nets) (net:=net) (layer:=layer) N (t:=t) (k:=k+1) (fun b h=>hp b (aaw _ h)) e1;refine⟨U,fun u v I=>e2 u v (O u v I),fun j p D hl J u v I=>?_⟩;cases j with
  | zero=>
   have e:=Option.some.inj D;subst e;exact R hl J u v (O u v I)
  | succ j=>
   rw[show k+(j+1)=k+1+j by omega]at J ⊢;exact V j p (by simpa using D) hl J u v I
theorem aiR{r:cP}(J:zd r){of:List Int}{nets:List ByteArray}{net:ByteArray}{layer:Int}{ps:List Piece}(hp:∀p∈ps,bE p.set):∀{t:List (Int×List an)} {out:List an},(∀z∈t,ajf all z)->Sub 1000000 out all ->
  Sub 1000000 (aii r of nets net layer ps t out) all/\∀x y,at' (aii r of nets net layer ps t out) x y=true->at' out x y=true\/∃z∈t,at' (ay r of nets net layer z.1 0 ps z.2) x y=true
 | [],out,_,h=>⟨h,fun _ _ h=>.inl h⟩
 | z::t,out,hz,h=>by
  have L:=hz z adU;obtain⟨I,_,_⟩:=ahQ J (of:=of) (nets:=nets) (net:=net) (layer:=layer) L.1 (t:=ps) (k:=0) hp L.2;obtain⟨O,N,R⟩:=Reg.kH h.sok I.sok;rw[aii];obtain⟨U,V⟩:=aiR J (of:=of) (nets:=nets) (net:=net) (layer:=layer) hp (t:=t) (out:=uo out (ay r of nets net layer z.1 0 ps z.2)) (fun z W=>hz z (aaw _ W)) ⟨O,R _ h.ink I.ink,fun x y D=>by
   rw[N,adZ]at D;rcases D with D | D
   ·exact h.sub x y D
   exact I.sub x y D⟩
  refine⟨U,fun x y D=>?_⟩;rcases V x y D with D | ⟨w,Y,D⟩
  ·rw[N,adZ]at D;rcases D with D | D
   ·exact .inl D
   exact .inr ⟨z,adU,D⟩
  exact .inr ⟨w,aaw _ Y,D⟩
theorem ain{r:cP}(z:zd r){a:fS}(D:iD a)(nets:List ByteArray)(net:ByteArray)(layer:Int):
  Sub 1000000 (ah8 r a nets net layer) (aB a.outline)/\∀b∈a.bores,through b layer=true->∀x y,at' (ah8 r a nets net layer) x y=true->at' (aB [aa b]) x y=false:=by
 have L:=z.nums;simp only[gM,cL,aaZ,aaH]at L;obtain⟨I,N⟩:=xS D.out;obtain⟨J,O,_⟩:=Reg.pe I (l:=r.edge) (r:=r.edge) (d:=r.edge) (u:=r.edge) (by omega) (by omega) (by omega) (by omega);have sub:∀x y,at' (coreS (aB a.outline) r.edge r.edge r.edge r.edge) x y=true->at' (aB a.outline) x y=true:=fun x y R=>(O x y).1 R x y (by omega) (by omega) (by omega) (by omega);obtain⟨U,_,V⟩:=ah7 z (of:=(aC a).ofBore) (nets:=nets) (net:=net) (layer:=layer) (all:=aB a.outline) (t:=a.bores) (k:=0) (jv D) ⟨J,Dd J I N sub,sub⟩;exact⟨U,V⟩
theorem aio{r:cP}(L:zd r){a:fS}(Y:Ft a)(nets:List ByteArray)(net:ByteArray)(layer:Int):
  Sub 1000000 (ahT r a nets net layer) (aB a.outline)/\(∀b∈a.bores,through b layer=true->∀x y,at' (ahT r a nets net layer) x y=true->at' (aB [aa b]) x y=false)/\
  (∀(j:Nat) p,(aC a).pieces[j]?=some p->p.layer=layer->aft nets ((aC a).ofPiece.getD j 0)≠net->∀x y,at' (ahT r a nets net layer) x y=true->at' p.set x y=false)/\
  (r.areas=[]->∀(j:Nat) p,(aC a).pieces[j]?=some p->p.layer=layer->aft nets ((aC a).ofPiece.getD j 0)≠net->∀x y,at' (ahT r a nets net layer) x y=true ->
   at' (a_ p.set (ahy r net (aft nets ((aC a).ofPiece.getD j 0)) (-1)) (ahy r net (aft nets ((aC a).ofPiece.getD j 0)) (-1)) (ahy r net (aft nets ((aC a).ofPiece.getD j 0)) (-1)) (ahy r net (aft nets ((aC a).ofPiece.getD j 0)) (-1))) x y=false):=by
 obtain⟨U,f2⟩:=ain L Y.art nets net layer;have N:=aij L layer U.sok U.ink;have J:∀p∈(aC a).pieces,bE p.set:=fun p hp=>(Y.pc p hp).sok;obtain⟨O,Z⟩:=aiR L (of:=(aC a).ofPiece) (nets:=nets) (net:=net) (layer:=layer) J (t:=ahX r layer (ah8 r a nets net layer)) (out:=[]) N ⟨trivial,fun b hb=>(by cases hb),fun x y D=>(by cases D)⟩;refine⟨⟨O.sok,O.ink,fun x y D=>U.sub x y (O.sub x y D)⟩,fun b hb ht x y D=>f2 b hb ht x y (O.sub x y D),fun j p R hl V x y D=>?_,fun hA j p R hl V x y D=>?_⟩
 ·rcases Z x y D with D | ⟨z,I,D⟩
  ·cases D
  obtain⟨_,_,W⟩:=ahQ L (of:=(aC a).ofPiece) (nets:=nets) (net:=net) (layer:=layer) (N z I).1 (t:=(aC a).pieces) (k:=0) J (N z I).2;have:=W j p R hl (by rw[abC];exact V) x y D;rw[abC]at this;cases e:at' p.set x y with
  | false=>rfl
  | true=>
   rw[aj_ (J p (aad R)) (aiz L _ _ (N z I).1).1 x y e]at this;cases this
 rcases Z x y D with D | ⟨z,I,D⟩
 ·cases D
 obtain⟨_,_,W⟩:=ahQ L (of:=(aC a).ofPiece) (nets:=nets) (net:=net) (layer:=layer) (N z I).1 (t:=(aC a).pieces) (k:=0) J (N z I).2;have:=W j p R hl (by rw[abC];exact V) x y D;rw[abC]at this;rw[ajm hA,ab_]at I;subst I;exact this
end M
namespace Reg
def ahK(x y:Int):List (Int×List an)->Int->Int
 | [],m=>m
 | z::l,m=>ahK x y l (if at' z.2 x y=true then max m z.1 else m)
theorem ahW(x y:Int):∀(l:List (Int×List an)) (m:Int),m<=ahK x y l m/\(∀z∈l,at' z.2 x y=true->z.1<=ahK x y l m)/\(ahK x y l m=m\/∃z∈l,at' z.2 x y=true/\z.1=ahK x y l m)
 | [],m=>⟨aaD _,fun z U=>(by cases U),.inl rfl⟩
 | z::l,m=>by
  rw[ahK];obtain⟨L,R,J⟩:=ahW x y l (if at' z.2 x y=true then max m z.1 else m);generalize ahK x y l (if at' z.2 x y=true then max m z.1 else m)=v at *;by_cases c:at' z.2 x y=true
  ·rw[aap c]at L J;refine⟨by omega,fun u D I=>?_,?_⟩
   ·rcases adq.1 D with e | D
    ·rw[e];omega
    exact R u D I
   rcases J with e | ⟨u,D,N,O⟩
   ·by_cases g:m<z.1
    ·exact .inr ⟨z,by simp,c,by omega⟩
    exact .inl (by omega)
   exact .inr ⟨u,by simp[D],N,O⟩
  rw[aaa c]at L J;refine⟨L,fun u D I=>?_,?_⟩
  ·rcases adq.1 D with e | D
   ·rw[e]at I;exact absurd I c
   exact R u D I
  rcases J with e | ⟨u,D,N,O⟩
  ·exact .inl e
  exact .inr ⟨u,by simp[D],N,O⟩
theorem ajn{x y:Int}{l:List (Int×List an)}{z:Int×List an}(h0:0<=z.1)(D:z∈l)(I:at' z.2 x y=true)(J:∀u∈l,at' u.2 x y=true->u.1<=z.1):ahK x y l (-1)=z.1:=by
 obtain⟨h1,L,N⟩:=ahW x y l (-1);have h4:=L z D I;rcases N with e | ⟨u,O,R,k2⟩
 ·omega
 have:=J u O R;omega
theorem ajE{x y:Int}{l:List (Int×List an)}(h:∀z∈l,at' z.2 x y=false):ahK x y l (-1)=-1:=by
 obtain⟨_,_,I⟩:=ahW x y l (-1);rcases I with e | ⟨u,J,D,_⟩
 ·exact e
 rw[h u J]at D;cases D
def ahO{α:Type}(key:α->Int)(d:α)(c:Int)(l:List α):Nat->Nat
 | 0=>0
 | k+1=>if key (l.getD k d)<c then ahO key d c l k else k+1
def aiq{α:Type}(key:α->Int)(d:α)(l:List α)(x:α):List α:=(l.take (ahO key d (key x) l l.length)++[x])++l.drop (ahO key d (key x) l l.length)
variable {α:Type}
theorem aia(key:α->Int)(d:α)(c:Int)(l:List α):∀k,ahO key d c l k<=k/\(∀i,ahO key d c l k<=i->i<k->key (l.getD i d)<c)/\(0<ahO key d c l k->c<=key (l.getD (ahO key d c l k-1) d))
 | 0=>⟨aam _,fun i D z=>by omega,fun h=>by simp[ahO]at h⟩
 | k+1=>by
  rw[ahO];by_cases g:key (l.getD k d)<c
  ·rw[aap g];obtain⟨D,z,I⟩:=aia key d c l k;refine⟨by omega,fun i J i2=>?_,I⟩;by_cases e:i=k
   ·rw[e];exact g
   exact z i J (by omega)
  rw[aaa g];exact⟨aam _,fun i D z=>by omega,fun _=>by show c<=key (l.getD k d);omega⟩
theorem aka{key:α->Int}{d:α}{l:List α}{x u:α}:u∈aiq key d l x↔u∈l\/u=x:=by
 rw[aiq,abi,abi,ab_];have e:=aaU (ahO key d (key x) l l.length) l;constructor
 ·rintro ((h | h) | h)
  ·exact .inl (acM h)
  ·exact .inr h
  exact .inl (abq h)
 rintro (h | h)
 ·rw[<-e,abi]at h;rcases h with h | h
  ·exact .inl (.inl h)
  exact .inr h
 exact .inl (.inr h)
def ah9{α:Type}(key:α->Int)(l:List α):Prop:=l.Pairwise fun a b=>key b<=key a
theorem ajW{key:α->Int}{l:List α}{d:α}(h:ah9 key l){i j:Nat}(hi:i<=j)(z:j<l.length):key (l.getD j d)<=key (l.getD i d):=by
 rw[aav,aav,acg z,acg (by omega:i<l.length),acy,acy];by_cases e:i=j
 ·subst e;exact aaD _
 exact abk.1 h i j (by omega) z (by omega)
theorem ajo{l:List α}{d u:α}(h:u∈l):∃i,i<l.length/\l.getD i d=u:=by
 obtain⟨i,hi,e⟩:=aeh.1 h;exact⟨i,hi,by rw[aav,acg hi,acy,e]⟩
theorem ajF{key:α->Int}{d:α}{l:List α}{x:α}(h:ah9 key l):ah9 key (aiq key d l x):=by
 obtain⟨p1,J,L⟩:=aia key d (key x) l l.length;rw[aiq];generalize ahO key d (key x) l l.length=p at *;have I:∀u∈l.take p,key x<=key u:=fun u D=>by
  obtain⟨i,hi,e⟩:=aeh.1 D;rw[aat]at hi;rw[List.getElem_take]at e;have:=ajW (d:=d) h (i:=i) (j:=p-1) (by omega) (by omega);have k:=L (by omega);have e2:l.getD i d=u:=by rw[aav,acg (by omega),acy,e]
  rw[e2]at this;omega
 have N:∀u∈l.drop p,key u<key x:=fun u D=>by
  obtain⟨i,hi,e⟩:=aeh.1 D;rw[aaN]at hi;rw[adi]at e;have:=J (p+i) (by omega) (by omega)
  rwa [aav,acg (by omega),acy,e]at this
 refine ade.2 ⟨ade.2 ⟨h.sublist (List.take_sublist _ _),ad0 _ _,fun a z b hb=>?_⟩,h.sublist (List.drop_sublist _ _),fun a z b hb=>?_⟩
 ·rw[ab_]at hb;rw[hb];exact I a z
 have:=N b hb;rcases abi.1 z with z | z
 ·have:=I a z;omega
 rw[ab_]at z;rw[z];omega
def ai5{α:Type}(key:α->Int)(d:α)(l:List α):List α:=l.foldl (aiq key d) []
theorem aiG(key:α->Int)(d:α)(l:List α):ah9 key (ai5 key d l)/\(∀u,u∈ai5 key d l↔u∈l):=by
 have H:∀(l s:List α),ah9 key s->ah9 key (l.foldl (aiq key d) s)/\∀u,u∈l.foldl (aiq key d) s↔u∈s\/u∈l:=by
  intro l
  induction l with
  | nil=>intro s z;exact⟨z,fun u=>by simp⟩
  | cons x l ih=>
   intro s z;obtain⟨D,I⟩:=ih (aiq key d s x) (ajF z);refine⟨D,fun u=>?_⟩;rw[aaq,I,aka,adq,or_assoc]
 obtain⟨D,I⟩:=H l [] List.Pairwise.nil;exact⟨D,fun u=>by rw[ai5,I];simp⟩
def ax(s:List (Int×List an)×List an)(a:Int×List an):List (Int×List an)×List an:=(s.1++[(a.1,bN a.2 s.2)],uo s.2 a.2)
theorem aik:∀(l:List (Int×List an)) (s:List (Int×List an)×List an),ah9 (·.1) l->(∀a∈l,bE a.2)->bE s.2 ->
  ∃R,(l.foldl ax s).1=s.1++R/\R.length=l.length/\bE (l.foldl ax s).2/\(∀z∈R,bE z.2)/\∀x y,(at' (l.foldl ax s).2 x y=true↔at' s.2 x y=true\/∃a∈l,at' a.2 x y=true)/\
   (∀z∈R,at' z.2 x y=true->at' s.2 x y=false/\∃a∈l,at' a.2 x y=true/\a.1=z.1/\∀b∈l,at' b.2 x y=true->b.1<=a.1)/\
   (at' s.2 x y=false->(∃a∈l,at' a.2 x y=true)->∃z∈R,at' z.2 x y=true)
 | [],s,_,_,L=>⟨[],by simp,rfl,L,(fun z D=>by cases D),fun x y=>⟨by simp,(fun z D=>by cases D),fun _ ⟨a,N,_⟩=>by cases N⟩⟩
 | a::l,s,hf,ho,L=>by
  obtain⟨f1,f2⟩:=abw.1 hf;have N:=ho a (by simp);obtain⟨m1,V,_⟩:=b6 N L;obtain⟨o1,o2,_⟩:=kH L N;obtain⟨R,r1,r2,r3,r4,r5⟩:=aik l (ax s a) f2 (fun b hb=>ho b (by simp[hb])) o1;refine⟨(a.1,bN a.2 s.2)::R,?_,by rw[aaB,aaB,r2],r3,fun z D=>?_,fun x y=>?_⟩
  ·rw[aaq,r1,ax,abx];rfl
  ·rcases adq.1 D with e | D
   ·rw[e];exact m1
   exact r4 z D
  obtain⟨W,Y,Z⟩:=r5 x y;have e:at' (ax s a).2 x y=(at' s.2 x y||at' a.2 x y):=o2 x y;rw[e]at W Y Z;refine⟨?_,fun z D I=>?_,fun hd I=>?_⟩
  ·rw[aaq,W,adZ];constructor
   ·rintro ((h | h) | ⟨b,hb,h⟩)
    ·exact .inl h
    ·exact .inr ⟨a,by simp,h⟩
    exact .inr ⟨b,by simp[hb],h⟩
   rintro (h | ⟨b,hb,h⟩)
   ·exact .inl (.inl h)
   rcases adq.1 hb with e | hb
   ·rw[e]at h;exact .inl (.inr h)
   exact .inr ⟨b,hb,h⟩
  ·rcases adq.1 D with e | D
   ·rw[e]at I ⊢;have I:at' (bN a.2 s.2) x y=true:=I;rw[V,aaZ,ael]at I;refine⟨I.2,a,by simp,I.1,rfl,fun b hb _=>?_⟩;rcases adq.1 hb with e | hb
    ·rw[e];exact aaD _
    exact f1 b hb
   obtain⟨O,b,hb,h2,h3,h4⟩:=Y z D I;rw[adX]at O;refine⟨O.1,b,by simp[hb],h2,h3,fun u U J=>?_⟩;rcases adq.1 U with e | U
   ·rw[e,O.2]at J;cases J
   exact h4 u U J
  cases c:at' a.2 x y with
  | true=>exact⟨(a.1,bN a.2 s.2),by simp,by show at' (bN a.2 s.2) x y=true;rw[V,c,hd];rfl⟩
  | false=>
   obtain⟨b,hb,h⟩:=I;rcases adq.1 hb with e | hb
   ·rw[e,c]at h;cases h
   obtain⟨z,D,k⟩:=Z (by rw[hd,c];rfl) ⟨b,hb,h⟩;exact⟨z,by simp[D],k⟩
theorem ajG{l:List (Int×List an)}(L:ah9 (·.1) l)(I:∀a∈l,bE a.2/\0<=a.1):
  bE (l.foldl ax ([],[])).2/\(∀z∈(l.foldl ax ([],[])).1,bE z.2)/\∀x y,
   (at' (l.foldl ax ([],[])).2 x y=true↔0<=ahK x y l (-1))/\
   (∀z∈(l.foldl ax ([],[])).1,at' z.2 x y=true->z.1=ahK x y l (-1)/\0<=z.1)/\
   (0<=ahK x y l (-1)->∃z∈(l.foldl ax ([],[])).1,at' z.2 x y=true):=by
 obtain⟨R,N,_,O,U,r5⟩:=aik l ([],[]) L (fun a D=>(I a D).1) trivial;rw[N,ab3];refine⟨O,U,fun x y=>?_⟩;obtain⟨V,W,Y⟩:=r5 x y;have key:0<=ahK x y l (-1)↔∃a∈l,at' a.2 x y=true:=by
  obtain⟨h1,Z,h3⟩:=ahW x y l (-1);constructor
  ·intro h;rcases h3 with e | ⟨u,hu,J,_⟩
   ·omega
   exact⟨u,hu,J⟩
  rintro⟨a,D,k⟩;have:=Z a D k;have:=(I a D).2;omega
 refine⟨?_,fun z hz hx=>?_,fun h=>Y rfl (key.1 h)⟩
 ·rw[V,key];constructor
  ·rintro (h | h)
   ·cases h
   exact h
  exact .inr
 obtain⟨_,a,D,J,k2,k3⟩:=W z hz hx;have h0:=(I a D).2;exact⟨by rw[ajn h0 D J k3,k2],by omega⟩
theorem ai6:∀{L:List (Int×List an)} (_:∀a∈L,0<=a.1) (l:List (Int×List an)) (s:List (Int×List an)×List an),(∀a∈l,a∈L)->(∀z∈s.1,0<=z.1)->∀z∈(l.foldl ax s).1,0<=z.1
 | _,_,[],_,_,D=>D
 | L,I,a::l,s,hl,D=>ai6 I l (ax s a) (fun b hb=>hl b (by simp[hb])) fun z J=>by
  rcases abi.1 J with h | h
  ·exact D z h
  rw[ab_]at h;rw[h];exact I a (hl a (by simp))
theorem ajH{x y:Int}{l k:List (Int×List an)}(h:∀u,u∈l↔u∈k)(m:Int):ahK x y l m=ahK x y k m:=by
 obtain⟨a1,I,J⟩:=ahW x y l m;obtain⟨b1,L,N⟩:=ahW x y k m;have h1:ahK x y l m<=ahK x y k m:=by
  rcases J with e | ⟨u,z,D,O⟩
  ·omega
  have:=L u ((h u).1 z) D;omega
 have h2:ahK x y k m<=ahK x y l m:=by
  rcases N with e | ⟨u,z,D,O⟩
  ·omega
  have:=I u ((h u).2 z) D;omega
 omega
def ai1(P:List an)(o:List an)(z:Int×List an):List an:=bN o (nM (a_ P z.1 z.1 z.1 z.1) z.2)
def ajI(ZQ:List (Int×List an))(A P:List an)(cc:Int)(o:List an):List an:=bN (ZQ.foldl (ai1 P) o) (bN (a_ P cc cc cc cc) A)
theorem aiS{P:List an}(R:bE P):∀(J:List (Int×List an)) (o:List an),bE o->(∀z∈J,bE z.2/\0<=z.1)->bE (J.foldl (ai1 P) o)/\∀x y,at' (J.foldl (ai1 P) o) x y=true↔at' o x y=true/\∀z∈J,¬(at' (a_ P z.1 z.1 z.1 z.1) x y=true/\at' z.2 x y=true)
 | [],o,ho,_=>⟨ho,fun x y=>⟨fun h=>⟨h,fun z L=>by cases L⟩,fun h=>h.1⟩⟩
 | z::J,o,ho,L=>by
  obtain⟨U,N⟩:=L z (by simp);obtain⟨V,s2,_⟩:=bW R N N N N;obtain⟨W,Y,_⟩:=Ky V U;obtain⟨l1,l2,_⟩:=b6 ho W;obtain⟨Z,r3⟩:=aiS R J (ai1 P o z) l1 fun u I=>L u (by simp[I]);refine⟨Z,fun x y=>?_⟩;rw[aaq,r3];have e:at' (ai1 P o z) x y=(at' o x y&&!(at' (a_ P z.1 z.1 z.1 z.1) x y&&at' z.2 x y)):=by rw[ai1,l2,Y]
  rw[e,aaZ,ael,abF];constructor
  ·rintro⟨⟨O,D⟩,h3⟩;refine⟨O,fun u I=>?_⟩;rcases adq.1 I with e | I
   ·rw[e];rintro⟨k1,k2⟩;rcases D with D | D
    ·rw[k1]at D;cases D
    rw[k2]at D;cases D
   exact h3 u I
  rintro⟨O,D⟩;refine⟨⟨O,?_⟩,fun u I=>D u (by simp[I])⟩;have:=D z (by simp);cases c:at' (a_ P z.1 z.1 z.1 z.1) x y with
  | false=>exact .inl rfl
  | true=>exact .inr (by cases d:at' z.2 x y with
   | false=>rfl
   | true=>exact absurd ⟨c,d⟩ this)
theorem ajJ{l:List (Int×List an)}(hf:ah9 (·.1) l)(hl:∀a∈l,bE a.2/\0<=a.1){P o:List an}(W:bE P)(ho:bE o){cc:Int}(N:0<=cc):
  bE (ajI (l.foldl ax ([],[])).1 (l.foldl ax ([],[])).2 P cc o)/\∀x y,∀n,n=(if 0<=ahK x y l (-1) then ahK x y l (-1) else cc)->
   at' (ajI (l.foldl ax ([],[])).1 (l.foldl ax ([],[])).2 P cc o) x y=(at' o x y&&!at' (a_ P n n n n) x y):=by
 obtain⟨a1,a2,a3⟩:=ajG hf hl;have O:∀z∈(l.foldl ax ([],[])).1,bE z.2/\0<=z.1:=fun z O=>by
  exact⟨a2 z O,ai6 (fun a ha=>(hl a ha).2) l ([],[]) (fun a h=>h) (fun z h=>by cases h) z O⟩
 obtain⟨c1,c3⟩:=aiS W _ o ho O;obtain⟨s1,s2,_⟩:=bW W N N N N;obtain⟨m1,m2,_⟩:=b6 s1 a1;obtain⟨l1,l2,_⟩:=b6 c1 m1;refine⟨l1,fun x y n J=>?_⟩;obtain⟨Y,R,q3⟩:=a3 x y;rw[ajI,l2,m2,abb,aaZ,c3,aaZ,ael,ael,abF,Bool.not_eq_false'];by_cases g:0<=ahK x y l (-1)
 ·rw[aap g]at J;obtain⟨z,Z,hx⟩:=q3 g;obtain⟨e1,_⟩:=R z Z hx;constructor
  ·rintro⟨⟨D,I⟩,_⟩;refine⟨D,?_⟩;have:=I z Z;rw[e1,<-J]at this;cases c:at' (a_ P n n n n) x y with
   | false=>rfl
   | true=>exact absurd ⟨c,hx⟩ this
  rintro⟨D,I⟩;refine⟨⟨D,fun u U=>?_⟩,.inr (Y.2 g)⟩;rintro⟨k1,V⟩;obtain⟨e2,_⟩:=R u U V;rw[e2,<-J,I]at k1;cases k1
 rw[aaa g]at J;have hA:at' (l.foldl ax ([],[])).2 x y=false:=by
  cases c:at' (l.foldl ax ([],[])).2 x y with
  | false=>rfl
  | true=>exact absurd (Y.1 c) g
 rw[hA,J];constructor
 ·rintro⟨⟨D,I⟩,L⟩;rcases L with L | L
  ·exact⟨D,L⟩
  cases L
 rintro⟨D,I⟩;refine⟨⟨D,fun u U=>?_⟩,.inl I⟩;rintro⟨_,V⟩;obtain⟨e2,e3⟩:=R u U V;omega
end Reg
namespace M
open Reg (ae an aS fS Piece BR bE cv told aB bO aa through fT aC ahD bN uo nM a_ coreS at' ahK ajI ax)
def ahY(layer:Int)(al:List sJ):List (Int×List an):=(al.filter fun a=>onB a layer).map fun a=>(a.clearance,aB a.region)
theorem ajX(layer:Int)(a:sJ)(z:List sJ):ahY layer (a::z)=if onB a layer=true then (a.clearance,aB a.region)::ahY layer z else ahY layer z:=by
 unfold ahY;by_cases c:onB a layer=true
 ·rw[aap c,aby,aap c,aa8]
 rw[aaa c,aby,aaa c]
theorem ajp:∀(l:List (Int×List an)) (k c:Int) (s:List an),ahF (ah6 l k s) c=if k=c then s else ahF l c
 | [],k,c,s=>rfl
 | (j,u)::l,k,c,s=>by
  rw[ah6];by_cases g:j=k
  ·rw[aap g,ahF,ahF];subst g;by_cases e:j=c
   ·rw[aap e,aap e]
   rw[aaa e,aaa e,aaa e]
  rw[aaa g,ahF,ahF,ajp l k c s];by_cases e:j=c
  ·rw[aap e,aap e,aaa (by omega)]
  rw[aaa e,aaa e]
theorem aiT:∀(l:List (Int×List an)) (k c:Int) (s:List an),c∈(ah6 l k s).map (·.1)↔c∈l.map (·.1)\/c=k
 | [],k,c,s=>by simp[ah6]
 | (j,u)::l,k,c,s=>by
  rw[ah6];by_cases g:j=k
  ·rw[aap g];simp only[aa8,adq];constructor
   ·rintro (h | h)
    ·exact .inl (.inl h)
    exact .inl (.inr h)
   rintro ((h | h) | h)
   ·exact .inl h
   ·exact .inr h
   exact .inl (by omega)
  rw[aaa g];simp only[aa8,adq,aiT l k c s];rw[or_assoc]
theorem akb{layer:Int}{x y:Int}:∀(I:List sJ) (l:List (Int×List an)),ah4 l->(∀a∈I,Reg.aF a.region=0/\cL a.clearance=true)->∀c,
  (at' (ahF (byZ layer I l) c) x y=true↔at' (ahF l c) x y=true\/∃z∈ahY layer I,z.1=c/\at' z.2 x y=true)/\(c∈(byZ layer I l).map (·.1)↔c∈l.map (·.1)\/∃z∈ahY layer I,z.1=c)
 | [],l,_,_,c=>by simp[byZ,ahY]
 | a::I,l,hl,ha,c=>by
  have N:=ha a (by simp);obtain⟨O,R⟩:=akb (layer:=layer) (x:=x) (y:=y) I (aih layer l a) (air hl layer N) (fun b hb=>ha b (by simp[hb])) c;rw[aiv,O,R,ajX,aih];by_cases g:onB a layer=true
  ·rw[aap g,aap g,ajp,aiT];obtain⟨U,_⟩:=ah1 hl a.clearance;obtain⟨_,V,_⟩:=Reg.kH U (xS N.1).1;simp only[adq];constructor
   ·by_cases e:a.clearance=c
    ·rw[aap e,V,adZ,e];constructor
     ·rintro ((h | h) | ⟨z,D,h⟩)
      ·exact .inl h
      ·exact .inr ⟨_,.inl rfl,rfl,h⟩
      exact .inr ⟨z,.inr D,h⟩
     rintro (h | ⟨z,D | D,J,L⟩)
     ·exact .inl (.inl h)
     ·rw[D]at L;exact .inl (.inr L)
     exact .inr ⟨z,D,J,L⟩
    rw[aaa e];constructor
    ·rintro (h | ⟨z,D,h⟩)
     ·exact .inl h
     exact .inr ⟨z,.inr D,h⟩
    rintro (h | ⟨z,D | D,J,L⟩)
    ·exact .inl h
    ·rw[D]at J;exact absurd J e
    exact .inr ⟨z,D,J,L⟩
   constructor
   ·rintro ((h | h) | ⟨z,D,h⟩)
    ·exact .inl h
    ·exact .inr ⟨_,.inl rfl,h.symm⟩
    exact .inr ⟨z,.inr D,h⟩
   rintro (h | ⟨z,D | D,h⟩)
   ·exact .inl (.inl h)
   ·rw[D]at h;exact .inl (.inr h.symm)
   exact .inr ⟨z,D,h⟩
  rw[aaa g,aaa g];exact⟨aaT,aaT⟩
theorem ajq{lv:List Int}:∀{n k i:Nat},k<lv.length->lv.length<=n+i->(∀j,j<i->j<lv.length->lv.getD j 0<=lv.getD k 0)->∀j,j<lv.length->lv.getD j 0<=lv.getD (aip lv n k i) 0
 | 0,k,i,hk,hn,h,j,hj=>by rw[aip];exact h j (by omega) hj
 | n+1,k,i,hk,hn,h,j,hj=>by
  rw[aip];by_cases g:i<lv.length
  ·rw[aap g];refine ajq (n:=n) (i:=i+1) (by split<;>assumption) (by omega) (fun m h1 z=>?_) j hj;by_cases c:lv.getD k 0<lv.getD i 0
   ·rw[aap c];by_cases e:m=i
    ·rw[e];exact aaD _
    have:=h m (by omega) z;omega
   rw[aaa c];by_cases e:m=i
   ·rw[e];omega
   exact h m (by omega) z
  rw[aaa g];exact h j (by omega) hj
theorem akc{lv:List Int}(h:lv.length≠0):∀c∈lv,c<=ah5 lv:=fun c z=>by
 obtain⟨j,D,e⟩:=Reg.ajo (d:=0) z;rw[<-e,ah5];exact ajq (by omega) (by omega) (fun m h1=>by omega) j D
theorem ajr{lv:List Int}(h:lv.length≠0):∀c∈lv,c=ah5 lv\/c∈aiM lv:=fun c D=>by
 obtain⟨j,z,e⟩:=Reg.ajo (d:=0) D;rw[ah5,aiM];have I:aip lv lv.length 0 0<lv.length:=aiI (by omega);generalize aip lv lv.length 0 0=m at *;by_cases g:j=m
 ·subst g;exact .inl e.symm
 refine .inr ?_;by_cases k:j<lv.length-1
 ·refine ab8.2 ⟨j,?_⟩;rw[aa7,aap k,ac5 (by omega),acg z,<-e,aav,acg z];rfl
 refine ab8.2 ⟨m,?_⟩;have:j=lv.length-1:=by omega
 rw[aa7,aap (by omega),ab7 I,<-this,e]
theorem ai7{L:List (Int×List an)}(U:ah4 L){x y:Int}:∀{n:Nat} {lv:List Int} {rest:List an},lv.length<=n->bE rest ->
  (∀z∈ahU L n lv rest,at' z.2 x y=true->at' rest x y=true/\((z.1=-1/\∀c∈lv,at' (ahF L c) x y=false)\/(z.1∈lv/\at' (ahF L z.1) x y=true/\∀c∈lv,at' (ahF L c) x y=true->c<=z.1)))/\(at' rest x y=true->∃z∈ahU L n lv rest,at' z.2 x y=true)
 | 0,lv,rest,hn,hr=>by
  have e:lv=[]:=adj.1 (by omega);subst e;rw[ahU];refine⟨fun z I J=>?_,fun h=>⟨_,ab_.2 rfl,h⟩⟩;rw[ab_]at I;subst I;exact⟨J,.inl ⟨rfl,fun c D=>by cases D⟩⟩
 | n+1,lv,rest,hn,hr=>by
  rw[ahU];by_cases g:lv.length=0
  ·rw[aap g];have e:lv=[]:=adj.1 g;subst e;refine⟨fun z I J=>?_,fun h=>⟨_,ab_.2 rfl,h⟩⟩;rw[ab_]at I;subst I;exact⟨J,.inl ⟨rfl,fun c D=>by cases D⟩⟩
  rw[aaa g];obtain⟨V,_⟩:=ah1 U (ah5 lv);obtain⟨l1,l2,_⟩:=Reg.b6 hr V;obtain⟨n1,W,_⟩:=Reg.Ky hr V;obtain⟨Y,Z⟩:=ai7 U (x:=x) (y:=y) (n:=n) (lv:=aiM lv) (rest:=bN rest (ahF L (ah5 lv))) (by rw[aiN g];omega) l1;constructor
  ·intro z I J;rcases adq.1 I with e | I
   ·subst e;have J:at' (nM rest (ahF L (ah5 lv))) x y=true:=J;rw[W,aaZ]at J;exact⟨J.1,.inr ⟨aiP g,J.2,fun c D _=>akc g c D⟩⟩
   obtain⟨R,O⟩:=Y z I J;rw[l2,aaZ,ael]at R;refine⟨R.1,?_⟩;rcases O with⟨e,O⟩ | ⟨O,h3,h4⟩
   ·refine .inl ⟨e,fun c D=>?_⟩;rcases ajr g c D with e | D
    ·rw[e];exact R.2
    exact O c D
   refine .inr ⟨aiO g _ O,h3,fun c D N=>?_⟩;rcases ajr g c D with e | D
   ·rw[e,R.2]at N;cases N
   exact h4 c D N
  intro h;cases c:at' (ahF L (ah5 lv)) x y with
  | true=>exact⟨(ah5 lv,nM rest (ahF L (ah5 lv))),by simp,by show at' (nM rest (ahF L (ah5 lv))) x y=true;rw[W,h,c];rfl⟩
  | false=>
   obtain⟨z,I,k⟩:=Z (by rw[l2,h,c];rfl);exact⟨z,by simp[I],k⟩
theorem ai8{r:cP}(I:zd r)(layer:Int):∀z∈ahY layer r.areas,bE z.2/\0<=z.1:=fun z J=>by
 obtain⟨a,L,rfl⟩:=adS.1 J;obtain⟨_,N,D⟩:=I.ar a (adu.1 L).1;simp only[cL,aaZ,aaH]at D;exact⟨(xS N).1,D.1⟩
theorem ajY{r:cP}(N:zd r)(layer:Int){all:List an}(I:bE all)(x y:Int):
  (∀z∈ahX r layer all,at' z.2 x y=true->at' all x y=true/\z.1=ahK x y (ahY layer r.areas) (-1))/\(at' all x y=true->∃z∈ahX r layer all,at' z.2 x y=true):=by
 have R:ah4 (byZ layer r.areas []):=aiy (fun p hp=>by cases hp) fun a I=>(N.ar a I).2;have J:=akb (layer:=layer) (x:=x) (y:=y) r.areas [] (fun p hp=>by cases hp) fun a I=>(N.ar a I).2;obtain⟨U,V⟩:=ai7 R (x:=x) (y:=y) (n:=(byZ layer r.areas []).length) (lv:=(byZ layer r.areas []).map (·.1)) (rest:=all) (by rw[aej];exact aam _) I;refine⟨fun z W Y=>?_,V⟩;obtain⟨Z,L⟩:=U z W Y;refine⟨Z,?_⟩;have mem:∀u∈ahY layer r.areas,u.1∈(byZ layer r.areas []).map (·.1):=fun u D=>(J u.1).2.2 (.inr ⟨u,D,rfl⟩);rcases L with⟨e,L⟩ | ⟨L,h3,h4⟩
 ·rw[e,Reg.ajE];intro u D;cases c:at' u.2 x y with
  | false=>rfl
  | true=>
   have:=L u.1 (mem u D);rw[((J u.1).1.2 (.inr ⟨u,D,rfl,c⟩))]at this;cases this
 rcases (J z.1).1.1 h3 with h | ⟨u,D,e,k⟩
 ·cases h
 rw[<-e];refine (Reg.ajn (ai8 N layer u D).2 D k fun v O Wc=>?_).symm;have:=h4 v.1 (mem v O) ((J v.1).1.2 (.inr ⟨v,O,rfl,Wc⟩));omega
def ai2(r:cP)(of:List Int)(nets:List ByteArray)(net:ByteArray)(layer m x y:Int):Nat->List Piece->Bool
 | _,[]=>true
 | k,p::t=>(decide (p.layer≠layer\/aft nets (of.getD k 0)=net)||!at' (a_ p.set (ahy r net (aft nets (of.getD k 0)) m) (ahy r net (aft nets (of.getD k 0)) m) (ahy r net (aft nets (of.getD k 0)) m) (ahy r net (aft nets (of.getD k 0)) m)) x y)&&ai2 r of nets net layer m x y (k+1) t
theorem aib{r:cP}(I:zd r){of:List Int}{nets:List ByteArray}{net:ByteArray}{layer z:Int}(J:z=-1\/(0<=z/\z<=100000))(x y:Int):∀{t:List Piece} {k:Nat} {s:List an},(∀p∈t,bE p.set)->bE s ->
  at' (ay r of nets net layer z k t s) x y=(at' s x y&&ai2 r of nets net layer z x y k t)
 | [],k,s,_,_=>by rw[ay,ai2,ac7]
 | p::t,k,s,hp,N=>by
  rw[ay,ai2,ah2];by_cases c:p.layer≠layer\/aft nets (of.getD k 0)=net
  ·rw[aap c,aaA c,abn,adr];exact aib I J x y (fun q L=>hp q (by simp[L])) N
  rw[aaa c,aaC c,abv];obtain⟨D,_⟩:=aiz I net (aft nets (of.getD k 0)) J;obtain⟨O,_,_⟩:=Reg.bW (hp p (by simp)) D D D D;obtain⟨l1,l2,_⟩:=Reg.b6 N O;rw[aib I J x y (fun q L=>hp q (by simp[L])) l1,l2,adw]
theorem ajs{r:cP}(L:zd r){of:List Int}{nets:List ByteArray}{net:ByteArray}{layer:Int}{all:List an}{ps:List Piece}(hp:∀p∈ps,bE p.set)(x y:Int):∀{t:List (Int×List an)} {out:List an},(∀z∈t,ajf all z)->Sub 1000000 out all ->
  (at' (aii r of nets net layer ps t out) x y=true↔at' out x y=true\/∃z∈t,at' z.2 x y=true/\ai2 r of nets net layer z.1 x y 0 ps=true)
 | [],out,_,h=>by simp[aii]
 | z::t,out,hz,h=>by
  have J:=hz z adU;obtain⟨N,_,_⟩:=ahQ L (of:=of) (nets:=nets) (net:=net) (layer:=layer) J.1 (t:=ps) (k:=0) hp J.2;obtain⟨R,O,U⟩:=Reg.kH h.sok N.sok;rw[aii,ajs L (of:=of) (nets:=nets) (net:=net) (layer:=layer) hp x y (t:=t) (out:=uo out (ay r of nets net layer z.1 0 ps z.2)) (fun z V=>hz z (aaw _ V)) ⟨R,U _ h.ink N.ink,fun x y D=>by
   rw[O,adZ]at D;rcases D with D | D
   ·exact h.sub x y D
   exact N.sub x y D⟩,O,adZ,aib L J.1 x y hp J.2.sok,aaZ]
  simp only[adq];constructor
  ·rintro ((h | h) | ⟨u,I,h⟩)
   ·exact .inl h
   ·exact .inr ⟨z,.inl rfl,h⟩
   exact .inr ⟨u,.inr I,h⟩
  rintro (h | ⟨u,I | I,h⟩)
  ·exact .inl (.inl h)
  ·subst I;exact .inl (.inr h)
  exact .inr ⟨u,I,h⟩
theorem akd{r:cP}(I:zd r){a:fS}(U:Ft a)(nets:List ByteArray)(net:ByteArray)(layer x y:Int):
  at' (ahT r a nets net layer) x y=(at' (ah8 r a nets net layer) x y&&ai2 r (aC a).ofPiece nets net layer (ahK x y (ahY layer r.areas) (-1)) x y 0 (aC a).pieces):=by
 obtain⟨J,_⟩:=ain I U.art nets net layer;have D:=aij I layer J.sok J.ink;have L:∀p∈(aC a).pieces,bE p.set:=fun p hp=>(U.pc p hp).sok;obtain⟨V,W⟩:=ajY I layer J.sok x y;have j:=ajs I (of:=(aC a).ofPiece) (nets:=nets) (net:=net) (layer:=layer) L x y (t:=ahX r layer (ah8 r a nets net layer)) (out:=[]) D ⟨trivial,fun b hb=>(by cases hb),fun x y Y=>(by cases Y)⟩;rw[ahT,abb,j,aaZ];constructor
 ·rintro (h | ⟨z,D,N,O⟩)
  ·cases h
  obtain⟨Z,R⟩:=V z D N;exact⟨Z,by rw[<-R];exact O⟩
 rintro⟨N,O⟩;obtain⟨z,D,k⟩:=W N;obtain⟨_,R⟩:=V z D k;exact .inr ⟨z,D,k,by rw[R];exact O⟩
def aiA(r:cP)(of:List Int)(nets:List ByteArray)(net:ByteArray)(layer:Int)(ZQ:List (Int×List an))(A:List an):Nat->List Piece->List an->List an
 | _,[],s=>s
 | k,p::t,s=>aiA r of nets net layer ZQ A (k+1) t (if p.layer≠layer\/aft nets (of.getD k 0)=net then s else ajI ZQ A p.set (max (ae2 r net) (ae2 r (aft nets (of.getD k 0)))) s)
theorem ake(r:cP)(net other:ByteArray){m:Int}:ahy r net other m=if 0<=m then m else max (ae2 r net) (ae2 r other):=by
 rw[ahy];by_cases c:m<0
 ·rw[aap c,aaa (by omega)]
 rw[aaa c,aap (by omega)]
theorem ajg{r:cP}(D:zd r){of:List Int}{nets:List ByteArray}{net:ByteArray}{layer:Int}{l:List (Int×List an)}(I:Reg.ah9 (·.1) l)(hl:∀a∈l,bE a.2/\0<=a.1):∀{t:List Piece} {k:Nat} {s:List an},(∀p∈t,bE p.set)->bE s ->
  bE (aiA r of nets net layer (l.foldl ax ([],[])).1 (l.foldl ax ([],[])).2 k t s)/\∀x y,at' (aiA r of nets net layer (l.foldl ax ([],[])).1 (l.foldl ax ([],[])).2 k t s) x y=(at' s x y&&ai2 r of nets net layer (ahK x y l (-1)) x y k t)
 | [],k,s,_,z=>⟨z,fun x y=>by rw[aiA,ai2,ac7]⟩
 | p::t,k,s,hp,z=>by
  rw[aiA];by_cases c:p.layer≠layer\/aft nets (of.getD k 0)=net
  ·rw[aap c];obtain⟨J,L⟩:=ajg D (of:=of) (nets:=nets) (net:=net) (layer:=layer) I hl (t:=t) (k:=k+1) (fun q N=>hp q (by simp[N])) z;refine⟨J,fun x y=>?_⟩;rw[L,ai2,aaA c,abn,adr]
  rw[aaa c];have c1:=(aie D net).1;obtain⟨O,R⟩:=Reg.ajJ I hl (hp p (by simp)) z (cc:=max (ae2 r net) (ae2 r (aft nets (of.getD k 0)))) (by omega);obtain⟨J,L⟩:=ajg D (of:=of) (nets:=nets) (net:=net) (layer:=layer) I hl (t:=t) (k:=k+1) (fun q N=>hp q (by simp[N])) O;refine⟨J,fun x y=>?_⟩;rw[L,ai2,aaC c,abv,R x y _ (ake r net _),adw]
theorem ajZ{r:cP}(z:zd r){a:fS}(D:Ft a)(nets:List ByteArray)(net:ByteArray)(layer:Int){l:List (Int×List an)}(J:Reg.ah9 (·.1) l)(I:∀u,u∈l↔u∈ahY layer r.areas):
  aiA r (aC a).ofPiece nets net layer (l.foldl ax ([],[])).1 (l.foldl ax ([],[])).2 0 (aC a).pieces (ah8 r a nets net layer)=ahT r a nets net layer:=by
 obtain⟨L,_⟩:=ain z D.art nets net layer;obtain⟨N,_⟩:=aio z D nets net layer;obtain⟨O,R⟩:=ajg z (of:=(aC a).ofPiece) (nets:=nets) (net:=net) (layer:=layer) J (fun u U=>ai8 z layer u ((I u).1 U)) (t:=(aC a).pieces) (k:=0) (fun p hp=>(D.pc p hp).sok) L.sok;refine Reg.iK _ _ O N.sok fun x y=>?_;rw[R,akd z D,Reg.ajH I]
open Go.AM Go.RowKit Go.Lib
open Reg (ahO aiq ah9)
def ah_:sJ:=⟨0,[],0⟩
def zrc(z:Int×List an):List PV:=[aj (told z.2),i64 z.1]
def ail(a:sJ):Int×List an:=(a.clearance,aB a.region)
def ahZ(r:cP)(layer:Int):List sJ:=Reg.ai5 (fun a:sJ=>a.clearance) ah_ (r.areas.filter fun a=>onB a layer)
theorem aiB(r:cP)(layer:Int):ah9 (·.1) ((ahZ r layer).map ail)/\∀u,u∈(ahZ r layer).map ail↔u∈ahY layer r.areas:=by
 obtain⟨I,D⟩:=Reg.aiG (fun a:sJ=>a.clearance) ah_ (r.areas.filter fun a=>onB a layer);refine⟨acZ.2 (I.imp fun h=>h),fun u=>?_⟩;rw[ahY,adS,adS];constructor
 ·rintro⟨a,z,rfl⟩;exact⟨a,(D a).1 z,rfl⟩
 rintro⟨a,z,rfl⟩;exact⟨a,(D a).2 z,rfl⟩
theorem aiC(l:List sJ):∀r∈l.map arr,r.length=3:=fun r z=>by
 obtain⟨a,_,rfl⟩:=adS.1 z;rfl
theorem ajt{α:Type}(key:α->Int)(d:α)(l:List α)(x:α):(aiq key d l x).length=l.length+1:=by
 have:=(Reg.aia key d (key x) l l.length).1;rw[aiq,acv,acv,aat,aaN,abS];omega
theorem akB{l:List (Int×List an)}(h:∀a∈l,bE a.2/\cv 1000000 a.2):∀{s:List (Int×List an)×List an},bE s.2/\cv 1000000 s.2->bE (l.foldl ax s).2/\cv 1000000 (l.foldl ax s).2:=by
 induction l with
 | nil=>intro s h;exact h
 | cons a l ih=>
  intro s z;obtain⟨D,I⟩:=h a adU;obtain⟨J,_,L⟩:=Reg.kH z.1 D;exact ih (fun b hb=>h b (aaw _ hb)) ⟨J,L _ z.2 I⟩
theorem ajK(r:cP)(hg:zd r)(layer:Int):af C 144 [.pv (.ag (rl r)),.pv (i64 layer)] (.p (.sl ((((ahZ r layer).map ail).foldl ax ([],[])).1.map zrc))) []:=by
 have na:=hg.na;have lm:=ai r.areas arr;obtain⟨O,I⟩:∃O,O=ahZ r layer:=⟨_,rfl⟩;rw[<-I];have HA:∀a∈O,Reg.aF a.region=0/\cL a.clearance=true:=fun a z=>by
  rw[I]at z;have:=(adu.1 (((Reg.aiG (fun a:sJ=>a.clearance) ah_ (r.areas.filter fun a=>onB a layer)).2 a).1 z)).1;exact (hg.ar a this).2
 rw[ahZ,Reg.ai5]at I;refine uX ⟨[],[2],[],[19],[],[]⟩ hC Tryz.func144 rfl (by kernel_rfl) fun _=>?_;refine aJ (fun x:Nat×List sJ=>((r.areas.drop x.1).filter fun a=>onB a layer).foldl (aiq (fun a:sJ=>a.clearance) ah_) x.2=O/\x.2.length<=x.1/\x.1<=r.areas.length) (fun x=>[(1,.p (i64 layer)),(2,.bx 2 0),(5,.p (.sl (x.2.map arr))),(6,.p (i64 x.1))]) (fun x=>[(2,.box (C_ r))]) (fun x=>r.areas.length-x.1) (0,[]) _ (au.nil hC _ 5 rfl) ⟨I.symm,aam _,aaj _⟩ ⟨Z,Z,Z,Z,Y⟩ ⟨Z,Y⟩ fun ⟨i,L⟩ hx t h=>?_;obtain⟨x1,x2,x3⟩:=hx;dsimp only at x1 x2 x3;have J:=ai L arr;apply iW<;>intro g1
 ·obtain⟨a,z⟩:=ak (l:=r.areas) (i:=i) (by omega);have ga:=(hg.ar a (aad z)).1;rw[drop_at z,aby]at x1;refine⟨(arr a),(idx rfl z),iW ?_ ?_⟩<;>intro c1;apply iW<;>intro c2
  ·rw[aaa (by simp only[onB,adZ,aaH];omega)]at x1;exact⟨wO (by omega),(i+1,L),_,au.refl _ _,⟨x1,by dsimp only;omega,by dsimp only;omega⟩,by dsimp only;omega,⟨Z,Z,Z,Z,Y⟩,⟨Z,Y⟩⟩
  all_goals
   rw[aap (by simp only[onB,adZ,aaH];omega),aaq]at x1;refine p7 (fun k:Nat=>k<=L.length/\ahO (fun a:sJ=>a.clearance) ah_ a.clearance L L.length=k) (fun k=>[(1,.p (i64 layer)),(2,.bx 2 0),(5,.p (.sl (L.map arr))),(6,.p (i64 i)),(7,.bx 7 0),(8,.p (i64 k))]) (fun _=>[(2,.box (C_ r)),(7,.box ((arr a).map .p))]) (fun k hk t h=>?_) ?_
   ·obtain⟨k1,U⟩:=hk;have hp:aiq (fun a:sJ=>a.clearance) ah_ L a=(L.take k++[a])++L.drop k:=by rw[aiq,U]
    have hl:=ajt (fun a:sJ=>a.clearance) ah_ L a;refine⟨⟨by decide,by omega,by rw[J];omega,aiC L⟩,⟨gJ (aiC L),by simp only[List.length_drop,List.length_take,J];omega,by simp only[List.length_drop,List.length_take,J];omega⟩,⟨by simp[arr],by simp[J];omega,by simp[J];omega⟩,⟨by omega,by rw[J];omega,by omega,aiC L⟩,⟨gJ (aiC L),by simp[J];omega,by simp[J];omega⟩,wO (by omega),(i+1,aiq (fun a:sJ=>a.clearance) ah_ L a),_,au.gD (by exact hC) _ 5 (y:=_) (fz:=_) (by exact⟨rfl,rfl⟩),⟨x1,by dsimp only;omega,by dsimp only;omega⟩,by dsimp only;omega,⟨rfl,rfl,?_,Z,Y⟩,⟨Z,Y⟩⟩;refine adV AV.p ?_;dsimp only;rw[hp];simp[acb,acX];rw[adW (by simp)];exact⟨rfl,rfl⟩
   refine aJ (fun k:Nat=>k<=L.length/\ahO (fun a:sJ=>a.clearance) ah_ a.clearance L L.length=ahO (fun a:sJ=>a.clearance) ah_ a.clearance L k) (fun k=>[(1,.p (i64 layer)),(2,.bx 2 0),(5,.p (.sl (L.map arr))),(6,.p (i64 i)),(7,.bx 7 0),(8,.p (i64 k))]) (fun _=>[(2,.box (C_ r)),(7,.box ((arr a).map .p))]) (fun k=>k) L.length _ (au.refl _ _) ⟨aam _,rfl⟩ ⟨rfl,rfl,rfl,rfl,rfl,adV (fun m:Nat=>AV.p (i64 m)) J,trivial⟩ ⟨Z,Z,Y⟩ fun k hk t h=>?_;obtain⟨k1,U⟩:=hk;apply iW<;>intro h1
   ·obtain⟨m,rfl⟩:∃m,k=m+1:=⟨k-1,by omega⟩;obtain⟨y,hy⟩:=ak (l:=L) (i:=m) (by omega);have hp:ahO (fun a:sJ=>a.clearance) ah_ a.clearance L (m+1)=if y.clearance<a.clearance then ahO (fun a:sJ=>a.clearance) ah_ a.clearance L m else m+1:=by
     rw[ahO,aav,hy,acy]
    refine⟨wO (by omega),(arr y),(idx (show ((m+1:Nat):Int)-1=(m:Nat) by omega) hy),iW ?_ ?_⟩<;>intro h2
    ·rw[aap h2]at hp;exact⟨wO (by omega),m,_,au.refl _ _,⟨by omega,by rw[U,hp]⟩,by omega,⟨rfl,rfl,rfl,rfl,rfl,a8 (by omega),trivial⟩,⟨Z,Z,Y⟩⟩
    rw[aaa h2]at hp;exact⟨m+1,⟨k1,by rw[U,hp]⟩,⟨Z,Z,Z,Z,Z,Z,Y⟩,⟨Z,Z,Y⟩⟩
   have e:k=0:=by omega
   subst e;exact⟨0,⟨aaj _,by rw[U];rfl⟩,⟨Z,Z,Z,Z,Z,Z,Y⟩,⟨Z,Z,Y⟩⟩
 rw[aaz (by omega)]at x1;have x1:L=O:=x1;subst x1;obtain⟨R,hR⟩:∃R,R=((L.map ail).foldl ax ([],[])).1:=⟨_,rfl⟩;rw[<-hR];refine aJ (fun x:Nat×(List (Int×List an)×List an)=>(((L.drop x.1).map ail).foldl ax x.2).1=R/\x.2.1.length<=x.1/\(bE x.2.2/\cv 1000000 x.2.2)/\x.1<=L.length) (fun x=>[(5,.p (.sl (L.map arr))),(10,.ow 10),(11,.p (aj (told x.2.2))),(12,.p (i64 x.1))]) (fun x=>[(10,.row 178 (x.2.1.map zrc))]) (fun x=>L.length-x.1) (0,[],[]) _ ((au.dk hC _ 10 178 _ (by decide) rfl rfl (by decide)).trans (au.nil hC _ 11 rfl)) ⟨hR.symm,aam _,⟨trivial,fun b hb=>by cases hb⟩,aaj _⟩ ⟨Z,Z,Z,Z,Y⟩ ⟨Z,Y⟩ fun ⟨j,ZQ,D⟩ hy t h=>?_;obtain⟨y1,y2,⟨V,W⟩,y5⟩:=hy;dsimp only at y1 y2 V W y5;have lZ:=ai ZQ zrc;apply iW<;>intro g2
 ·obtain⟨a,z⟩:=ak (l:=L) (i:=j) (by omega);have hc:=(HA a (aad z)).1;have N:=ph hc;have et:=nF hc;have lr:=N.len;rw[drop_at z,aa8,aaq]at y1;have lD:=Reg.vQ (K:=1000000) V W;have hle:=mL N.sok V (N.ink.up (by omega)) (W.up (by omega)) (by rw[et];omega);have Wt:=S6 V N.sok (W.up (by omega)) (N.ink.up (by omega)) (by rw[et];omega);rw[et]at hle Wt;obtain⟨o1,_,o3⟩:=Reg.kH V N.sok;exact⟨(arr a),(idx rfl z),_,_,hle,(arr a),(idx rfl z),⟨fun r hr=>by simp at hr;subst hr;rfl,by simp only[lZ,List.length_cons,List.length_nil,List.length_set,List.length_replicate];omega,by simp only[lZ,List.length_cons,List.length_nil,List.length_set,List.length_replicate];omega⟩,(arr a),(idx rfl z),_,_,Wt,wO (by omega),(j+1,ZQ++[(a.clearance,bN (aB a.region) D)],uo D (aB a.region)),_,au.refl _ _,⟨y1,by simp only[List.length_append,List.length_singleton];omega,⟨o1,o3 _ W N.ink⟩,by dsimp only;omega⟩,by dsimp only;omega,⟨Z,Z,Z,Z,Y⟩,⟨by rw[List.map_append];rfl,trivial⟩⟩
 rw[aaz (by omega)]at y1;have y1:ZQ=R:=y1;refine⟨?_,trivial⟩;rw[<-y1]
open Reg (Full RK fo ff dy dD en cJ)
open Reg (cV bq bU gO bG qL eG eO aeH da I7 lU bT db sa)
variable {bs:List aS}
theorem K6{i:Nat}(hi:i<bs.length)(h:aeH bs i=true):da bs 0=true:=by
 rw[da,aci];exact⟨i,by rw[List.mem_range'_1];omega,h⟩
theorem N6(h:∀i,i<bs.length->aeH bs i=false):da bs 0=false:=by
 rw[da,ajd];intro i hi;rw[List.mem_range'_1]at hi;rw[h i (by omega)];decide
theorem P5{i k:Nat}{x y:aS}(z:bs[i]?=some x)(hk:k<i)(D:bs[k]?=some y)(h:eO x y=true):aeH bs i=true:=by
 rw[aeH,aci];refine⟨y,aad (i:=k) (by rw[aa7,aap hk,D]),?_⟩;rw[aav,z];exact h
theorem Tb{i:Nat}{x:aS}(z:bs[i]?=some x)(h:∀k y,k<i->bs[k]?=some y->eO x y=false):aeH bs i=false:=by
 rw[aeH,ajd];intro y D;obtain⟨k,hk⟩:=ab8.1 D;rw[aa7]at hk;split at hk
 ·rw[aav,z];have:=h k y (by assumption) hk;simp[this]
 cases hk
theorem HZ(a:fS):dc a=if fv a≠0 then fv a else if da a.bores 0=true then 12 else if eG a=true then 0 else 2:=by
 unfold dc fv;by_cases J:a.coppers.length=0
 ·rw[aap J,aap J,aap (by decide)]
 rw[aaa J,aaa J];by_cases L:16<a.coppers.length
 ·rw[aap L,aap L,aap (by decide)]
 rw[aaa L,aaa L];by_cases z:db a.coppers≠0
 ·rw[aap z,aap z,aap z]
 rw[aaa z,aaa z];by_cases D:Reg.aF a.outline≠0
 ·rw[aap D,aap D,aap D]
 rw[aaa D,aaa D];by_cases N:2000<sa a.outline.length a.coppers
 ·rw[aap N,aap N,aap (by decide)]
 rw[aaa N,aaa N];by_cases I:bT a≠0
 ·rw[aap I,aap I,aap I]
 rw[aaa I,aaa I]
theorem K7{a:fS}(h:fv a=0):a.coppers.length<=16/\(∀r∈a.coppers,Reg.aF r=0)/\B5 a.bores:=by
 unfold fv at h;split at h
 ·cases h
 split at h
 ·cases h
 rename_i g2;split at h
 ·rename_i g;exact absurd h g
 rename_i D;split at h
 ·rename_i g;exact absurd h g
 split at h
 ·cases h
 split at h
 ·rename_i g;exact absurd h g
 rename_i z;have z:bT a=0:=by simpa using z
 refine⟨by omega,Reg.jo (by simpa using D),?_⟩;rw[bT]at z;split at z
 ·cases z
 exact⟨by omega,fun b hb=>ky (Reg.sM z b hb)⟩
theorem AW(a:fS)(ho:ly a):af C 41 [.pv (.ag (dX a))] (.p (i64 (dc a))) []:=by
 have lk:=ai a.coppers fun r=>[aj r];have lb:=ai a.bores bc;obtain⟨F,D⟩:∃F,F=dc a:=⟨_,rfl⟩;rw[<-D];rw[HZ]at D;have UQ:=xw a ho;refine fW hC Tryz.func41 rfl (by kernel_rfl) fun _=>?_;refine⟨_,_,UQ,iW ?_ ?_⟩<;>intro L
 ·have L:fv a≠0:=by simpa using L
  rw[aap L]at D;refine⟨?_,trivial⟩;rw[D]
 have L:fv a=0:=by simpa using L
 rw[aaa (by simpa using L)]at D;obtain⟨KH,HA,ok⟩:=K7 L;have jB:=ok.jB;refine aJ (fun i:Nat=>i<=a.bores.length/\∀j,j<i->aeH a.bores j=false) (fun i=>[(1,.bx 1 0),(4,.p (i64 i))]) (fun _=>[(1,.box ((dX a).map .p))]) (fun i=>a.bores.length-i) 0 _ (au.refl _ _) ⟨aaj _,by omega⟩ ⟨Z,Z,Y⟩ ⟨Z,Y⟩ fun i hi t h=>?_;obtain⟨i1,i2⟩:=hi;apply iW<;>intro g1
 ·have h1:i<a.bores.length:=by omega
  obtain⟨x,N⟩:=ak h1;have xo:=ok.ok x (aad N);refine aJ (fun k:Nat=>k<=i/\∀j y,j<k->a.bores[j]?=some y->eO x y=false) (fun k=>[(1,.bx 1 0),(4,.p (i64 i)),(5,.p (i64 k))]) (fun _=>[(1,.box ((dX a).map .p))]) (fun k=>i-k) 0 _ (au.refl _ _) ⟨aaj _,by omega⟩ ⟨Z,Z,Z,Y⟩ ⟨Z,Y⟩ fun k hk t h=>?_;obtain⟨k1,k2⟩:=hk;apply iW<;>intro g2
  ·have h2:k<i:=by omega
   obtain⟨y,O⟩:=ak (l:=a.bores) (i:=k) (by omega);have yo:=ok.ok y (aad O);have ce:=NV xo yo;have J:eO x y=false->∀j z,j<k+1->a.bores[j]?=some z->eO x z=false:=fun c j z hj R=>by
    by_cases e:j=k
    ·subst e;rw[O]at R;injection R with R;rw[<-R];exact c
    exact k2 j z (by omega) R
   refine⟨(bc x),(idx rfl N),(bc y),(idx rfl O),_,_,(FQ x y),iW ?_ ?_⟩<;>intro g3
   ·refine⟨(bc x),(idx rfl N),_,_,(di x xo),(bc y),(idx rfl O),_,_,(di y yo),_,_,(Dy (aa x) (aa y)),iW ?_ ?_⟩<;>intro g4
    ·rw[aap (K6 h1 (P5 N h2 O (by rw[<-ce,g3,g4];rfl)))]at D;refine⟨?_,trivial⟩;rw[D];rfl
    have m:=J (by rw[<-ce,g3,g4];rfl);exact⟨wO (by omega),(k+1),_,au.refl _ _,⟨by omega,m⟩,by omega,⟨Z,Z,Z,Y⟩,⟨Z,Y⟩⟩
   have m:=J (by rw[<-ce,g3];rfl);exact⟨wO (by omega),(k+1),_,au.refl _ _,⟨by omega,m⟩,by omega,⟨Z,Z,Z,Y⟩,⟨Z,Y⟩⟩
  have rn:=Tb N fun j y hj O=>k2 j y (by omega) O;exact⟨wO (by omega),(i+1),_,au.refl _ _,⟨by omega,fun j hj=>by by_cases e:j=i;exact e▸rn;exact i2 j (by omega)⟩,by omega,⟨Z,Z,Y⟩,⟨Z,Y⟩⟩
 rw[aaa (by rw[N6 fun j hj=>i2 j (by omega)];decide)]at D;refine aJ (fun x:Nat×Nat=>qL a.bores x.1 (a.coppers.drop x.1)=qL a.bores 0 a.coppers/\x.2+(bG a.bores x.1 (a.coppers.drop x.1)).length=(bG a.bores 0 a.coppers).length/\x.2<=2000*x.1/\x.1<=a.coppers.length) (fun x=>[(1,.bx 1 0),(6,.p (i64 x.2)),(7,.p (i64 x.1))]) (fun _=>[(1,.box ((dX a).map .p))]) (fun x=>a.coppers.length-x.1) (0,0) _ (au.refl _ _) ⟨rfl,by simp,aam _,aaj _⟩ ⟨Z,Z,Z,Y⟩ ⟨Z,Y⟩ fun ⟨I,n⟩ N t h=>?_;obtain⟨x1,U,x3,x4⟩:=N;simp only at x1 U x3 x4;apply iW<;>intro g5<;>try simp only[zB]at g5
 ·obtain⟨r,V⟩:=ak (l:=a.coppers) (i:=I) (by omega);have TC:=HA r (aad V);have W:=jV ok.ok jB I TC;rw[drop_at V,qL]at x1;rw[drop_at V,bG,acv,aej]at U;have O1:=qX a ok I r V TC;have qg:=uQ (told (bU a.bores I r));have Yi:=Reg.uG W.sok;have YW:=Reg.BQ (bU a.bores I r);have ld:=ai (told (bU a.bores I r)) rc;refine⟨_,_,O1,iW ?_ ?_⟩<;>intro g6
  ·rw[aaC (by omega),aaI]at x1;have hd:eG a=false:=by unfold eG;rw[<-x1];rfl
   rw[aaa (by rw[hd];decide)]at D;refine⟨?_,trivial⟩;rw[D];rfl
  have Ue:(told (bU a.bores I r)).length<=2000:=by omega
  rw[aaA Ue,adr]at x1;have TD:=qg ⟨Ue,Reg.bP W.sok,fun q hq=>by
   have:=Reg.fR W.sok W.ink q hq;unfold RK at this ⊢;omega⟩
  have lq:(((cV (bU a.bores I r)).map told).map fun r=>[aj r]).length=(cV (bU a.bores I r)).length:=by rw[aej,aej]
  rw[Yi]at TD;exact⟨_,_,TD,wO (by omega),wO (by omega),(I+1,n+(cV (bU a.bores I r)).length),_,au.refl _ _,⟨x1,by simp only;rw[show (((I+1:Nat):Int))=(I:Int)+1 by omega];omega,by simp only;omega,by simp only;omega⟩,by simp only;omega,⟨rfl,adV (fun m:Nat=>AV.p (i64 (n+m))) lq,Z,Y⟩,⟨Z,Y⟩⟩
 rw[aaz (by omega)]at x1 U;have x1:qL a.bores 0 a.coppers=true:=x1.symm;have U:n=(bG a.bores 0 a.coppers).length:=by have:(bG a.bores I []).length=0:=rfl;omega
 have hd:eG a=decide (n<=2000):=by unfold eG;rw[x1,adr,<-U]
 rw[hd]at D;apply iW<;>intro g6<;>try simp only[zB]at g6
 ·rw[aaa (by simp;omega)]at D;refine⟨?_,trivial⟩;rw[D];rfl
 rw[aap (by simp;omega)]at D;refine⟨?_,trivial⟩;rw[D];rfl
end M
namespace Reg
variable {D0:List Bool} {s:sY}
theorem FV{T:List (List Int)}{n:Nat}(h:jc T n D0 s){j:Nat}(J:j<T.length):jc T n D0 ⟨s.seen,s.pieces,oB s.bores j,s.used.set j true,s.todo⟩:=by
 obtain⟨L,N⟩:=sX h.br (j:Int);have z:∀i,(s.used.set j true).getD i true=true↔i=j\/s.used.getD i true=true:=fun i=>by
  rw[jx (by rw[h.ulen];exact J)];by_cases e:i=j<;>simp[e]
 exact⟨h.len,by show (s.used.set j true).length=_;rw[aaM,h.ulen],h.nod,h.mem,h.done,h.pr,h.pm,L,fun y=>by
  show y∈oB s.bores j↔∃i:Nat,y=i/\i<T.length/\(s.used.set j true).getD i true=true;rw[N,h.bm];constructor
  ·rintro (⟨i,e,D,I⟩ | e)
   ·exact⟨i,e,D,(z i).2 (.inr I)⟩
   exact⟨j,e,J,(z j).2 (.inl rfl)⟩
  rintro⟨i,e,D,I⟩;rcases (z i).1 I with e2 | e2
  ·exact .inr (by rw[e,e2])
  exact .inl ⟨i,e,D,e2⟩⟩
theorem N7{T:List (List Int)}{n:Nat}(D:∀j,∀p∈T.getD j [],0<=p/\p<n)(h:jc T n D0 s){x:Int}{j:Nat}(z:j<T.length):jc T n D0 (nO T x s j)/\iZ s (nO T x s j):=by
 rw[nO];split
 ·exact⟨h,iZ.refl s⟩
 have g:=FV h z;obtain⟨I,J,_,_⟩:=zV (T.getD j []) _ g (D j);refine⟨I,iZ.trans ⟨⟨[],by simp⟩,fun i hi=>?_⟩ J⟩;show (s.used.set j true).getD i true=true;rw[jx (by rw[h.ulen];exact z)];split
 ·rfl
 exact hi
theorem B6{T:List (List Int)}{n:Nat}(z:∀j,∀p∈T.getD j [],0<=p/\p<n){x:Int}:∀(l:List Nat) (s:sY),(∀j∈l,j<T.length)->jc T n D0 s->jc T n D0 (l.foldl (nO T x) s)
 | [],s,_,h=>h
 | j::l,s,hl,h=>B6 z l _ (fun i hi=>hl i (aaw _ hi)) (N7 z h (hl j adU)).1
theorem FW{T:List (List Int)}{n:Nat}(z:∀j,∀p∈T.getD j [],0<=p/\p<n):∀(f i:Nat) (s:sY),jc T n D0 s->jc T n D0 (p_ T f i s)
 | 0,i,s,h=>h
 | f+1,i,s,h=>by
  rw[p_];split
  ·exact FW z f (i+1) _ (B6 z _ _ (fun j D=>abD.1 D) h)
  exact h
theorem B7{T:List (List Int)}{n:Nat}{i:Nat}(hl:D0.length=n)(hi:i<n)(z:D0.getD i true=false):jc T n D0 ⟨D0.set i true,[(i:Int)],[],List.replicate T.length false,[(i:Int)]⟩:=
 ⟨by show (D0.set i true).length=n;rw[aaM,hl],aan,by simp,fun p hp=>by
  rw[ab_.1 hp];exact⟨⟨by omega,by omega⟩,by rw[aaS];exact z⟩,fun p p0 pn=>by
  show (D0.set i true).getD p.toNat true=true↔_\/p∈[(i:Int)];rw[jx (by rw[hl];exact hi),ab_];by_cases e:p.toNat=i
  ·rw[aap e];exact⟨fun _=>.inr (by omega),fun _=>rfl⟩
  ·rw[aaa e];exact⟨.inl,fun g=>g.elim id fun e2=>absurd (by omega) e⟩,ad0 _ _,fun p=>by simp,List.Pairwise.nil,fun x=>by
  constructor
  ·intro h;cases h
  rintro⟨j,_,D,h⟩;rw[aav,aec,aap D]at h;cases h⟩
theorem uR{l:List Int}(h:bF l):l.Nodup:=afW (fun h=>by omega) h
theorem jc.jB{T:List (List Int)}{n:Nat}(h:jc T n D0 s):s.todo.length<=n/\s.pieces.length<=n/\s.bores.length<=T.length:=by
 have z:=h.le;refine⟨z,?_,?_⟩
 ·exact aaF (adO (uR h.pr) fun p hp=>(h.pm p).1 hp) z
 have:=adO (uR h.br) (l₂:=(List.range T.length).map fun (j:Nat)=>(j:Int)) fun x D=>by
  obtain⟨j,e,I,_⟩:=(h.bm x).1 D;exact adS.2 ⟨j,abD.2 I,e.symm⟩
 simpa using this
theorem N8(T:List (List Int))(f i:Nat)(s:sY)(h:¬i<s.todo.length):p_ T f i s=s:=by
 cases f with
 | zero=>rfl
 | succ f=>rw[p_,aaa h]
def gA(T:List (List Int))(n i:Nat):List Bool×List bh:=(List.range i).foldl (j_ T n) (List.replicate n false,[])
theorem uS(T:List (List Int))(n i:Nat):gA T n (i+1)=j_ T n (gA T n i) i:=by simp[gA,abM,abZ]
def P6(g:bh):Prop:=g.pins=[]/\g.pieces.length<=1000000/\g.bores.length<=1000000
theorem se{T:List (List Int)}{n:Nat}(L:n<=100000)(N:T.length<=100000)(D:∀j,∀p∈T.getD j [],0<=p/\p<n):∀i,i<=n->(gA T n i).1.length=n/\(gA T n i).2.length<=i/\∀g∈(gA T n i).2,P6 g
 | 0,_=>by simp[gA]
 | i+1,hi=>by
  obtain⟨I,h2,J⟩:=se L N D i (by omega);rw[uS,j_];split
  ·exact⟨I,by omega,J⟩
  rename_i c;have g:=FW D n 0 _ (B7 (T:=T) (i:=i) I (by omega) (by simpa using c));obtain⟨_,O,R⟩:=g.jB;refine⟨g.len,by simp only[acv,abS];omega,fun q z=>?_⟩;rcases abi.1 z with z | z
  ·exact J q z
  rw[ab_.1 z];exact⟨rfl,aaF O (by omega),aaF R (by omega)⟩
end Reg
namespace M
open Go.AM Go.RowKit Go.Lib
open Reg (ae an oB fZ sY jc pI nO p_ eH bh fS)
theorem mM(l:List Int)(n:Int)(hN:l.length<=1000000):af C 207 [.pv (ints l),.pv (i64 n)] (.p (bool (Reg.mS l n))) []:=by
 refine fW hC Tryz.func207 rfl (by kernel_rfl) fun _=>?_;have lm:=ai l fun n=>[i64 n];refine aJ (fun i:Nat=>Reg.mS (l.drop i) n=Reg.mS l n) (fun i=>[(0,.p (ints l)),(1,.p (i64 n)),(5,.p (i64 i))]) (fun _=>[]) (fun i=>l.length-i) 0 _ (au.refl _ _) rfl ⟨Z,Z,Z,Y⟩ trivial fun i hi t h=>?_;apply iW<;>intro I
 ·rw[lm]at I;obtain⟨x,z⟩:=ak (l:=l) (i:=i) (by omega);rw[drop_at z]at hi;refine⟨[i64 x],(idx rfl z),iW ?_ ?_⟩<;>intro D
  ·refine⟨?_,trivial⟩;rw[<-hi,Reg.mS,abK,aaA D];rfl
  refine⟨wO (by omega),(i+1),_,au.refl _ _,?_,by omega,⟨Z,Z,Z,Y⟩,trivial⟩;rw[<-hi,Reg.mS,Reg.mS,abK,aaC D,abv]
 rw[aaz (by omega)]at hi;refine⟨?_,trivial⟩;rw[<-hi];rfl
theorem xd(l:List Int)(n:Int)(hN:l.length<=1000000):af C 245 [.pv (ints l),.pv (i64 n)] (.p (ints (oB l n))) []:=by
 refine uX ⟨[],[0],[],[],[],[]⟩ hC Tryz.func245 rfl (by kernel_rfl) fun _=>?_;have lm:=ai l fun n=>[i64 n];refine p7 (fun k:Nat=>k<=l.length/\fZ l n l.length=k) (fun k=>[(0,.p (ints l)),(1,.p (i64 n)),(5,.p (i64 k))]) (fun _=>[]) (fun k hk t h=>?_) ?_
 ·obtain⟨I,z⟩:=hk;have tail:¬(0<k/\l.getD (k-1) 0=n)->oB l n=(l.take k++[n])++l.drop k:=fun c=>by rw[oB,z,aaa c]
  apply iW<;>intro O
  ·obtain⟨y,D⟩:=ak (l:=l) (i:=k-1) (by omega);have J:l.getD (k-1) 0=y:=by rw[aav,D];rfl
   refine⟨wO (by omega),[i64 y],(idx (show (k:Int)-1=((k-1:Nat):Int) by omega) D),iW ?_ ?_⟩<;>intro L
   ·refine⟨?_,trivial⟩;rw[oB,z,aap ⟨by omega,by rw[J];exact L⟩]
   have tail:=tail (fun c=>L (by rw[<-J];exact c.2));refine⟨⟨by decide,by omega,by rw[lm];omega,dt l⟩,⟨gJ (dt l),by simp only[aaN,aat,lm];omega,by simp only[aaN,aat,lm];omega⟩,⟨by simp,by simp[lm];omega,by simp[lm];omega⟩,⟨by omega,by rw[lm];omega,by omega,dt l⟩,⟨gJ (dt l),by simp[lm];omega,by simp[lm];omega⟩,?_,trivial⟩;rw[tail];simp[ints,acb,acX,i64];rw[adW (by simp)]
  have tail:=tail (fun c=>O (by omega));refine⟨⟨by decide,by omega,by rw[lm];omega,dt l⟩,⟨gJ (dt l),by simp only[aaN,aat,lm];omega,by simp only[aaN,aat,lm];omega⟩,⟨by simp,by simp[lm];omega,by simp[lm];omega⟩,⟨by omega,by rw[lm];omega,by omega,dt l⟩,⟨gJ (dt l),by simp[lm];omega,by simp[lm];omega⟩,?_,trivial⟩;rw[tail];simp[ints,acb,acX,i64];rw[adW (by simp)]
 refine aJ (fun k:Nat=>k<=l.length/\fZ l n l.length=fZ l n k) (fun k=>[(0,.p (ints l)),(1,.p (i64 n)),(5,.p (i64 k))]) (fun _=>[]) (fun k=>k) l.length _ (au.refl _ _) ⟨aam _,rfl⟩ ⟨rfl,rfl,adV (fun m:Nat=>AV.p (i64 m)) lm,trivial⟩ trivial fun k hk t h=>?_;obtain⟨I,z⟩:=hk;apply iW<;>intro h1
 ·obtain⟨m,rfl⟩:∃m,k=m+1:=⟨k-1,by omega⟩;obtain⟨y,D⟩:=ak (l:=l) (i:=m) (by omega);have hp:fZ l n (m+1)=if n<y then fZ l n m else m+1:=by
   rw[fZ,aav,D,acy]
  refine⟨wO (by omega),[i64 y],(idx (show ((m+1:Nat):Int)-1=(m:Nat) by omega) D),iW ?_ ?_⟩<;>intro N
  ·rw[aap N]at hp;exact⟨wO (by omega),m,_,au.refl _ _,⟨by omega,by rw[z,hp]⟩,by omega,⟨rfl,rfl,a8 (by omega),trivial⟩,trivial⟩
  rw[aaa N]at hp;refine⟨m+1,⟨I,by rw[z,hp]⟩,⟨Z,Z,Z,Y⟩,trivial⟩
 have e:k=0:=by omega
 subst e;refine⟨0,⟨aaj _,by rw[z];rfl⟩,⟨Z,Z,Z,Y⟩,trivial⟩
def uY(l:List Int):List PV:=[ints l]
theorem B8{l:List (List Int)}{k:Nat}{b:List Int}(h:l[k]?=some b):l.getD k []=b:=by rw[aav,h];rfl
theorem FX{l:List Bool}{p:Int}{b:Bool}(h0:0<=p)(z:l[p.toNat]?=some b):(bits l)[p.toNat]?=some [bool b]:=by
 rw[bits,aak,z];rfl
theorem K8{l:List Int}{i:Int}{k:Nat}{v:Int}(h:i=k)(z:l[k]?=some v):(aA l)[i.toNat]?=some [i64 v]:=by
 rw[h,aaS,aA,aak,z];rfl
theorem FY(T:List (List Int))(n:Nat)(hn:n<=100000)(Yu:T.length<=100000)(Vs:∀x∈T,x.length<=1000000)(hT:∀j,∀p∈T.getD j [],0<=p/\p<n)(D0:List Bool)(hl:D0.length=n)(i:Nat)(hi:i<n)(hd:D0.getD i true=false)(x0 x1 x2 x3 x4 x5 x6:PV):
  af C 191 [.pv (.ip [x0,x1,x2,x3,x4,x5,x6,.sl (T.map uY)]),.pv (i64 i),.row 4 (bits D0)] (.p (.ag (wR ⟨(eH T n i D0).pieces,(eH T n i D0).bores,[]⟩))) [.row (bits (eH T n i D0).seen)]:=by
 have lT:=ai T uY;have lD:=oC D0;obtain⟨d,S7⟩:=ak (l:=D0) (i:=i) (by omega);have xl:=Reg.B7 (T:=T) hl hi hd;obtain⟨F,hF⟩:∃F,F=eH T n i D0:=⟨_,rfl⟩;rw[<-hF];rw[eH]at hF;refine UO ⟨[],[],[],[],[],[]⟩ hC Tryz.func191 rfl (by kernel_rfl) fun _=>⟨_,au.refl _ _,?_⟩;refine⟨⟨by omega,by (try dsimp only);omega⟩,[bool d],(kM rfl S7),⟨by omega,by omega,by (try dsimp only);omega,by omega⟩,?_⟩;have hu:List.replicate (T.map uY).length [bool false]=bits (List.replicate T.length false):=by rw[bits,aef,lT]
 refine aJ (fun x:Nat×sY=>p_ T (n-x.1) x.1 x.2=F/\jc T n D0 x.2) (fun x=>[(0,.p (.ip [x0,x1,x2,x3,x4,x5,x6,.sl (T.map uY)])),(2,.ow 100002),(6,.bx 6 0),(7,.bx 7 0),(8,.ow 8),(9,.ow 9),(10,.p (i64 x.1))]) (fun x=>[(100002,.row 4 (bits x.2.seen)),(6,.box [.nl,.nl,.nl]),(7,.box [.p (ints x.2.pieces),.p (ints x.2.bores),.p (.im (.slice none 0 0))]),(8,.row 4 (bits x.2.used)),(9,.row 3 (aA x.2.todo))]) (fun x=>n-x.1) (0,⟨D0.set i true,[(i:Int)],[],List.replicate T.length false,[(i:Int)]⟩) _ ((au.aeK (by exact hC) _ 7 1 90000 3 _ _ (by decide) (by decide) (by exact rfl) (by exact rfl) (by exact rfl) (by decide)).trans ((au.fB (by exact hC) _ 7 1 90000 3 _ _ (by decide) (by exact rfl) (by exact rfl) (by exact rfl)).trans (au.MJ (by exact hC) _ 7 2 _ (by exact rfl) (by exact rfl)))) ⟨hF.symm,xl⟩ ⟨Z,Z,Z,Z,Z,Z,Z,Y⟩ ⟨adV (AB.row _) (qV D0 i true),rfl,rfl,adV (AB.row _) hu,Z,Y⟩ fun ⟨at',s⟩ hx t h=>?_;obtain⟨J,Yv⟩:=hx;simp only at J Yv;have lo:=bQ s.todo;obtain⟨jB,_,_⟩:=Yv.jB;apply iW<;>intro h1<;>try simp only[zB]at h1
 ·rw[lo]at h1;obtain⟨I,W⟩:=ak (l:=s.todo) (i:=at') (by omega);have N0:p_ T (n-at') at' s=p_ T (n-(at'+1)) (at'+1) ((List.range T.length).foldl (nO T I) s):=by
   rw[show n-at'=(n-(at'+1))+1 by omega,p_,aap (by omega),aav,W];rfl
  rw[N0]at J;obtain⟨R,hR⟩:∃R,R=(List.range T.length).foldl (nO T I) s:=⟨_,rfl⟩;rw[<-hR]at J;refine aJ (fun y:Nat×sY=>((List.range T.length).drop y.1).foldl (nO T I) y.2=R/\jc T n D0 y.2/\y.2.todo[at']?=some I) (fun y=>[(0,.p (.ip [x0,x1,x2,x3,x4,x5,x6,.sl (T.map uY)])),(2,.ow 100002),(6,.bx 6 0),(7,.bx 7 0),(8,.ow 8),(9,.ow 9),(10,.p (i64 at')),(11,.p (i64 y.1))]) (fun y=>[(100002,.row 4 (bits y.2.seen)),(6,.box [.nl,.nl,.nl]),(7,.box [.p (ints y.2.pieces),.p (ints y.2.bores),.p (.im (.slice none 0 0))]),(8,.row 4 (bits y.2.used)),(9,.row 3 (aA y.2.todo))]) (fun y=>T.length-y.1) (0,s) _ (au.refl _ _) ⟨hR.symm,Yv,W⟩ ⟨Z,Z,Z,Z,Z,Z,Z,Z,Y⟩ ⟨Z,Z,Z,Z,Z,Y⟩ fun ⟨j,u⟩ hy t h=>?_;obtain⟨y1,N,U⟩:=hy;simp only at y1 N U;have lu:=bQ u.todo;have lus:=oC u.used;have uul:=N.ulen;obtain⟨fu1,fu2,fu3⟩:=N.jB;have VJ:=(aao.1 U).1;apply iW<;>intro O<;>try simp only[zB]at O
  ·rw[lT]at O;have O:j<T.length:=by omega
   obtain⟨L,hL⟩:=ak (l:=T) (i:=j) O;obtain⟨e,he⟩:=ak (l:=u.used) (i:=j) (by omega);have eT:=B8 hL;have eU:=oD (d:=true) he;have lL:=ai L fun n=>[i64 n];have lL2:=Vs L (aad hL);have ZT:=hT j;rw[eT]at ZT;rw[Reg.z_ O,aaq]at y1;refine⟨⟨by omega,by (try dsimp only);omega⟩,[bool e],(kM rfl he),iW ?_ ?_⟩<;>intro h3
   ·rw[nO,aap (.inl (by rw[eU];exact h3))]at y1;exact⟨wO (by omega),(j+1,u),_,au.refl _ _,⟨y1,N,U⟩,by simp only;omega,⟨Z,Z,Z,Z,Z,Z,Z,Z,Y⟩,⟨Z,Z,Z,Z,Z,Y⟩⟩
   have h3:e=false:=by simpa using h3
   refine⟨(uY L),(idx rfl hL),⟨by omega,by (try dsimp only);omega⟩,[i64 I],(K8 rfl U),_,_,(mM L I (by omega)),iW ?_ ?_⟩<;>intro h4
   ·rw[nO,aap (.inr (by rw[eT];exact h4))]at y1;exact⟨wO (by omega),(j+1,u),_,au.refl _ _,⟨y1,N,U⟩,by simp only;omega,⟨Z,Z,Z,Z,Z,Z,Z,Z,Y⟩,⟨Z,Z,Z,Z,Z,Y⟩⟩
   have hb:=Reg.FV N O;rw[nO,aaa (by
    rintro (c | c)
    ·rw[eU,h3]at c;cases c
    rw[eT,h4]at c;cases c),eT]at y1
   have Yw:=xd u.bores j (by omega);refine⟨⟨by omega,by (try dsimp only);omega⟩,[bool e],(kM rfl he),_,_,Yw,?_⟩;obtain⟨R2,Tt⟩:∃R2,R2=L.foldl pI ⟨u.seen,u.pieces,oB u.bores j,u.used.set j true,u.todo⟩:=⟨_,rfl⟩;rw[<-Tt]at y1;refine aJ (fun z:Nat×sY=>(L.drop z.1).foldl pI z.2=R2/\jc T n D0 z.2/\z.2.todo[at']?=some I) (fun z=>[(0,.p (.ip [x0,x1,x2,x3,x4,x5,x6,.sl (T.map uY)])),(2,.ow 100002),(6,.bx 6 0),(7,.bx 7 0),(8,.ow 8),(9,.ow 9),(10,.p (i64 at')),(11,.p (i64 j)),(12,.p (i64 z.1))]) (fun z=>[(100002,.row 4 (bits z.2.seen)),(6,.box [.nl,.nl,.nl]),(7,.box [.p (ints z.2.pieces),.p (ints z.2.bores),.p (.im (.slice none 0 0))]),(8,.row 4 (bits z.2.used)),(9,.row 3 (aA z.2.todo))]) (fun z=>L.length-z.1) (0,⟨u.seen,u.pieces,oB u.bores j,u.used.set j true,u.todo⟩) _ (au.refl _ _) ⟨Tt.symm,hb,U⟩ ⟨Z,Z,Z,Z,Z,Z,Z,Z,Z,Y⟩ ⟨rfl,rfl,rfl,adV (AB.row _) (qV u.used j true),Z,Y⟩ fun ⟨k,v⟩ hz t h=>?_;obtain⟨D,z2,z3⟩:=hz;simp only at D z2 z3;have lv:=bQ v.todo;have lvs:=oC v.seen;have vsl:=z2.len;obtain⟨fv1,fv2,fv3⟩:=z2.jB;have Yx:=(aao.1 z3).1;refine⟨(uY L),(idx rfl hL),iW ?_ ?_⟩<;>intro h5<;>try simp only[zB]at h5
   ·rw[lL]at h5;obtain⟨p,hp⟩:=ak (l:=L) (i:=k) (by omega);obtain⟨p0,pn⟩:=ZT p (aad hp);rw[drop_at hp,aaq]at D;obtain⟨b,oE⟩:=ak (l:=v.seen) (i:=p.toNat) (by omega);have eS:=oD (d:=true) oE;obtain⟨k1,_,_,_⟩:=Reg.Ji z2 p0 pn;refine⟨(uY L),(idx rfl hL),[i64 p],(idx rfl hp),⟨by omega,by (try dsimp only);omega⟩,[bool b],(FX p0 oE),iW ?_ ?_⟩<;>intro V
    ·have V:b=false:=by simpa using V
     have hk:pI v p=⟨v.seen.set p.toNat true,oB v.pieces p,v.bores,v.used,v.todo++[p]⟩:=by rw[pI,aaa (by rw[eS,V];decide)]
     rw[hk]at D k1;have Yy:=xd v.pieces p (by omega);exact⟨⟨by omega,by (try dsimp only);omega⟩,[bool b],(FX p0 oE),_,_,Yy,⟨fun r hr=>by simp at hr;subst hr;rfl,by simp only[lv,List.length_cons,List.length_nil,List.length_set,List.length_replicate];omega,by simp only[lv,List.length_cons,List.length_nil,List.length_set,List.length_replicate];omega⟩,wO (by omega),(k+1,sY.mk (v.seen.set p.toNat true) (oB v.pieces p) v.bores v.used (v.todo++[p])),_,au.refl _ _,⟨D,k1,by show (v.todo++[p])[at']?=some I;rw[List.getElem?_append_left Yx];exact z3⟩,by simp only;omega,⟨Z,Z,Z,Z,Z,Z,Z,Z,Z,Y⟩,⟨congrArg (AB.row _) (qV v.seen p.toNat true),rfl,rfl,rfl,congrArg (AB.row _) (gP v.todo p).symm,trivial⟩⟩
    have V:b=true:=by simpa using V
    have hk:pI v p=v:=by rw[pI,aap (by rw[eS,V])]
    rw[hk]at D k1;exact⟨wO (by omega),(k+1,v),_,au.refl _ _,⟨D,k1,z3⟩,by simp only;omega,⟨Z,Z,Z,Z,Z,Z,Z,Z,Z,Y⟩,⟨Z,Z,Z,Z,Z,Y⟩⟩
   rw[lL]at h5;rw[aaz (by omega)]at D;have D:v=R2:=D;rw[<-D]at y1;exact⟨wO (by omega),(j+1,v),_,au.refl _ _,⟨y1,z2,z3⟩,by simp only;omega,⟨Z,Z,Z,Z,Z,Z,Z,Z,Y⟩,⟨Z,Z,Z,Z,Z,Y⟩⟩
  rw[lT]at O;rw[aaz (by rw[adN];omega)]at y1;have y1:u=R:=y1;rw[<-y1]at J;exact⟨wO (by omega),(at'+1,u),_,au.refl _ _,⟨J,N⟩,by simp only;omega,⟨Z,Z,Z,Z,Z,Z,Z,Y⟩,⟨Z,Z,Z,Z,Z,Y⟩⟩
 rw[lo]at h1;rw[Reg.N8 _ _ _ _ (by omega)]at J;subst J;refine⟨_,au.MJ (by exact hC) _ 6 2 _ (by exact rfl) (by exact rfl),?_⟩;exact And.intro rfl (And.intro rfl trivial)
end M
namespace Reg
def P7(n:Nat)(h:zx):Nat:=if h.bore=true then n+h.num.toNat else h.num.toNat
def VM(bs:List aS)(T:List (List Int)):List Nat:=(List.range T.length).filter fun j=>bD bs j&&decide ((T.getD j []).length=0)
def K9(bs:List aS)(T:List (List Int))(c:Nat->Nat)(n:Nat):List Nat:=cd c n++(VM bs T).map fun j=>n+j
theorem H0(bs:List aS)(T:List (List Int))(c:Nat->Nat)(n:Nat):(K9 bs T c n).Nodup:=by
 rw[K9,abV];refine⟨afh _ _,?_,fun a z b hb=>?_⟩
 ·rw[abO,acZ];refine afW ?_ (ac2 aeb List.pairwise_lt_range);intro a b h;omega
 obtain⟨j,_,rfl⟩:=adS.1 hb;have:=(mem_keys.1 z).1;omega
variable {bs:List aS}
theorem Ab{T:List (List Int)}{n:Nat}{c:Nat->Nat}(z:HR c T n):dR bs T n=(K9 bs T c n).map fun r=>if r<n then ⟨Dw c n r,zW c T r,[]⟩ else ⟨[],[((r-n:Nat):Int)],[]⟩:=by
 obtain⟨_,_,D⟩:=sZ z n (aam _);rw[dR,D,vV,K9,abE,abd];congr 1
 ·refine aaG fun r I=>?_;rw[aap (mem_keys.1 I).1]
 refine aaG fun j _=>?_;show _=(if n+j<n then _ else _);rw[aaa (by omega),abG]
theorem N9{T:List (List Int)}{n:Nat}{c:Nat->Nat}(bc:VH c T n){r:Nat}(D:r∈K9 bs T c n){h:zx}(I:dz h (if r<n then ⟨Dw c n r,zW c T r,[]⟩ else ⟨[],[((r-n:Nat):Int)],[]⟩)=true):r=c (P7 n h):=by
 rw[dz,adZ,aaZ,aaZ,oA,oA,ael]at I;rw[K9,abi]at D;by_cases e:r<n
 ·rw[aap e]at I;rcases I with⟨J,z⟩ | ⟨J,z⟩
  ·rw[P7,aap J];obtain⟨j,L,e2⟩:=adS.1 (show h.num∈zW c T r from z);obtain⟨a,R,U⟩:=aci.1 (adu.1 L).2;rw[<-e2,aaS,<-bc.e1 j a R];exact (abJ U).symm
  rw[P7,aaa (by rw[J];simp)];obtain⟨k,hk,e2⟩:=adS.1 (show h.num∈Dw c n r from z);rw[<-e2,aaS];exact (dx.1 hk).2.symm
 rw[aaa e]at I;rcases D with D | D
 ·exact absurd (mem_keys.1 D).1 e
 obtain⟨j,L,rfl⟩:=adS.1 D;rw[abG]at I;rcases I with⟨J,z⟩ | ⟨J,z⟩
 ·rw[P7,aap J,ab_.1 (show h.num∈[(j:Int)] from z),aaS];obtain⟨N,O⟩:=adu.1 L;have N:=abD.1 N;rw[aaZ]at O;have V:T.getD j []=[]:=adj.1 (abJ O.2);have l1:=bc.tops.le (n+j) (by omega);exact (bc.e2 j N V (c (n+j)) (by omega) (bc.tops.top _ (by omega))).symm
 cases z
theorem H3{T:List (List Int)}{n:Nat}(L:∀x∈T,∀p∈x,0<=p/\p<n){h:zx}{i k:Nat}{g q:bh}(hi:(dR bs T n)[i]?=some g)(hk:(dR bs T n)[k]?=some q)(D:dz h g=true)(I:dz h q=true):i=k:=by
 have bc:=B0 L;generalize cQ (jm n T.length T)=c at bc;rw[Ab bc.pc,aak]at hi hk;obtain⟨r,z,e1⟩:=acq.1 hi;obtain⟨s,J,e2⟩:=acq.1 hk;rw[<-e1]at D;rw[<-e2]at I;have a:=N9 bc (aad z) D;have b:=N9 bc (aad J) I;rw[<-b]at a;rw[a]at z;exact aiK (H0 bs T c n) z J
def bare(g:bh):List Int×List Int:=(g.pieces,g.bores)
theorem P8{h:zx}{g q:bh}(e:bare g=bare q):dz h g=dz h q:=by
 injection e with e1 e2;rw[dz,dz,e1,e2]
theorem FZ(h:zx):∀(z D:List bh) (k:Nat),z.map bare=D.map bare->kY h k z=kY h k D
 | [],[],k,_=>rfl
 | [],q::D,k,e=>by cases e
 | g::z,[],k,e=>by cases e
 | g::z,q::D,k,e=>by
  rw[aa8,aa8]at e;injection e with e1 e2;rw[kY,kY,P8 e1,FZ h z D (k+1) e2]
def dq(bs:List aS)(ps:List Piece)(gs:List bh)(l:fo):Int:=if (vW bs ps l).2=true then kY (vW bs ps l).1 0 gs else -1
def s6(bs:List aS)(ps:List Piece)(gs:List bh)(l:fo):List bh:=
 if 0<=dq bs ps gs l then gs.set (dq bs ps gs l).toNat (iN (l.part,l.pin) (gs.getD (dq bs ps gs l).toNat ⟨[],[],[]⟩)) else gs
theorem N_{z:List bh}{k:Nat}{p:ByteArray×ByteArray}:(z.set k (iN p (z.getD k ⟨[],[],[]⟩))).map bare=z.map bare:=by
 refine ach fun i=>?_;rw[aak,aak];rcases abm k z.length with c | c
 ·rw[ahw c];by_cases e:i=k
  ·rw[aap e,e,acg c,aav,acg c];rfl
  rw[aaa e]
 rw[List.set_eq_of_length_le c]
theorem B9{ps:List Piece}{o:List Int×List Int}{G:List bh}(I:NS bs ps)
  (J:∀l,(il bs ps l).2=true->∃k:Nat,(if (il bs ps l).1.bore=true then o.2 else o.1).getD (il bs ps l).1.num.toNat 0=k/\kY (il bs ps l).1 0 G=k):
  ∀(D:List fo) (z:List bh) (s:qN),z.map bare=G.map bare->s.groups=z->D.foldl (s6 bs ps) z=(D.foldl (uA bs ps o) s).groups
 | [],z,s,_,e=>e.symm
 | l::D,z,s,hb,e=>by
  rw[aaq,aaq];obtain⟨L,N⟩:=P1 I l;refine B9 I J D _ _ ?_ ?_
  ·rw[s6];split
   ·rw[N_];exact hb
   exact hb
  rw[s6,dq];show (if (il bs ps l).2=true then s.groups.set _ _ else s.groups)=_;by_cases c:(il bs ps l).2=true
  ·obtain⟨k,O,R⟩:=J l c;have U:kY (il bs ps l).1 0 z=k:=by rw[<-R];exact FZ _ _ _ 0 hb
   rw[N c];simp only[aap c,U,O,e];rw[aap (Int.natCast_nonneg k)]
  have V:¬(vW bs ps l).2=true:=by rw[L];exact c
  rw[aaa c];simp only[aaa V];rw[aaa (by omega)];exact e
end Reg
end Go.Proofs.YtfloceomobknoaaGreatDoor

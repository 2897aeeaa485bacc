/- Contracts: a drawn step; Contracts: drawn steps, one behind the other; Contracts: a drawn world, a drawn script -/
import Derived.Test.YtobpfkgabdeefaaGreatQ43
namespace Go.Proofs.YtobpfkgabdeefaaGreat.E
open Go Go.RowKit
set_option maxHeartbeats 4000000
set_option maxRecDepth 10000
set_option linter.unusedSimpArgs false
set_option linter.unusedVariables false
set_option linter.unusedSectionVars false
section
def aeF:cc:=⟨[(92,.cm [true,false]),(201,.cm [true]),(202,.cm [true,false]),(203,.cm [true])],cw,cz,false⟩
attribute [-go_sem] ei
def NK (d:DW) (res:AV) (σ:ak):Prop:=∃(x:bQ) (R:Dr) (al:List ByteArray),(res=.agg x.bH/\σ=DW.sig {d with r:=R,alt:=al} 0)/\e9 x=true/\al.length<=d.alt.length+1/\R.ok (d.r.p+20)
theorem lD {k n a:Int}{t:ByteArray}(h1:1<=k/\k<=13) (h2:0<=n/\n<=20) (h3:t.size<=600):e9 ⟨k,n,a,t⟩=true:=by
 simp only[e9,Bool.and_eq_true,cr,decide_eq_true_eq];exact⟨h1,h2,by omega⟩
theorem RC (d:DW) (h:d.ok 900000000):e9 (sF d).1=true/\(sF d).2.ok (d.r.p+8):=by
 have hs:=ea h.w.so;have hb:=h.r.1;have hp:=h.r.2;have hF:(m8 d.r d.alt).2.ok (d.r.p+2):=by
  unfold m8;split
  ·exact⟨hb,by show d.r.p<=_;omega⟩
  split
  ·exact⟨hb,Nat.le_refl _⟩
  exact⟨hb,by show d.r.p+1<=_;omega⟩
 unfold sF;generalize m8 d.r d.alt=F at *;obtain⟨l,R⟩:=F;simp only at hF ⊢;have lX:=hF.2;have gK:=hF.1;have hA:(oB d.w l R).2.ok (d.r.p+4)/\∀a,(oB d.w l R).1=some a->df a=true:=by
  unfold oB;split
  ·exact⟨hF.le (by omega),fun a h=>by cases h⟩
  split
  ·refine⟨⟨gK,by show R.p+2<=_;omega⟩,fun a ha=>?_⟩;simp only at ha;split at ha
   ·rename_i hl;cases ha;exact F3 hl
   cases ha
  exact⟨⟨gK,by show R.p+1<=_;omega⟩,fun a h=>by cases h⟩
 generalize oB d.w l R=A at *;obtain⟨o,Q⟩:=A;simp only at hA;obtain⟨hQ,ha⟩:=hA;have hQp:=hQ.2;have GX:=hQ.1;cases o with
 | some a=>
  have h1:=xy (ha a rfl);exact⟨lD ⟨by decide,by decide⟩ h1.2.1 h1.2.2,hQ.le (by omega)⟩
 | none=>
  have q2:=fO (r:=Q.bf 1) (n:=d.w.set.many+d.w.set.bB+1) ((hQ.bf 1).le (by omega)) (by omega);show e9 (Ae d.w l Q).1=true/\(Ae d.w l Q).2.ok _
  unfold Ae;split
  ·exact⟨lD ⟨by decide,by decide⟩ (by omega) (Ez _),GX,by show Q.p+4<=_;omega⟩
  split
  ·exact⟨lD ⟨by decide,by decide⟩ (by omega) (Ez _),GX,by show Q.p+3<=_;omega⟩
  exact⟨lD ⟨by decide,by decide⟩ (by omega) (Ez _),GX,by show Q.p+4<=_;omega⟩
theorem ab6 (l:List ByteArray) (h:l.length<=1000):∀x,(l.map cF++[x]).length<=maxLen/\(l.map cF++[x]).length * 16<=140737488355328:=fun x=>ed (E:=cF) (l:=l) (xs:=[x]) (b:=16) (n:=1001) (by simp;omega) (by omega) (by omega)
theorem agT (d:DW) (h:d.ok 800000000) (CR:d.alt.length<=99):∃res σ,NK d res σ/\aY Tryz.prog 144 (d.sig 1000002) [uU] res σ:=by
 refine yV [[0,0]] aeF false Tryz.f144 ?_;conv=>enter[1];reduce
 refine vm Tryz.f144 226 [.cell 2 83] (NK d) (by kernel_rfl) (by decide +kernel) (by kernel_rfl) rfl ?_;have hx:=h.w.hx;have hs:=ea h.w.so;have hp:=h.r.2;have hb:=h.r.1;have ok:∀i,i<=1000->(d.r.bf i).ok 1000000000:=fun i hi=>(h.r.bf i).le (by omega)
 have fin:∀(x:bQ) (R:Dr) (al:List ByteArray),e9 x=true->al.length<=d.alt.length+1->R.ok (d.r.p+20)->NK d (.agg x.bH) (DW.sig {d with r:=R,alt:=al} 0):=fun x R al h1 h2 h3=>⟨x,R,al,⟨rfl,rfl⟩,h1,h2,h3⟩
 have qE:=Vw h.w.oD 0;refine aA hx ?_;refine aE.intro (er 40 (ok 0 (by omega))) ?_;have e0:d.r.bf 0=d.r:=rfl;have q40:=fO (n:=40) (ok 0 (by omega)) (by omega);rw[e0]at q40;generalize pk d.r 40=k at *;refine aA hx ?_;refine kM (fun s=>∃R:Dr,R.ok (d.r.p+2)/\s=⟨226,[(0,uU),(2,.ptr 2 0 [] 4 0 0),(3,vI k)],DW.sig {d with r:=R} 1000002++[(2,0,one ⟨4,[Ee],0,false⟩)],1⟩) ?_ ?_
 ·obtain⟨r,ev,alt,w⟩:=d;simp only at hx hs hp hb ok fin qE e0;cases ev with
  | false=>
   refine qd hx ?_;refine bO.intro (aB.b9 sn [0,2,3] _) ?_;refine aA hx ?_;exact⟨r.bf 1,⟨hb,by show r.p+1<=_;omega⟩,rfl⟩
  | true=>
   refine qd hx ?_;refine aq.intro qE ?_;generalize i9 w.aO 0 (List.range w.aO.length)=X;by_cases g:(X.length:Int)>0
   ·have CN:DW.ok ⟨r.bf 2,true,alt,w⟩ 900000000:=⟨(h.r.bf 2).le (by omega),h.w,h.a⟩;have Lb:=Vv ⟨r.bf 2,true,alt,w⟩ CN;have pO:=RC ⟨r.bf 2,true,alt,w⟩ CN;have dA:(sF ⟨r.bf 2,true,alt,w⟩).2.ok (r.p+20):=pO.2.le (by show r.p+2+8<=_;omega);generalize sF ⟨r.bf 2,true,alt,w⟩=F at *;refine gI g hx ?_;refine eW (er 3 (ok 1 (by omega))) hx ?_;refine bX (fun g=>?_) (fun g=>?_)
    ·refine b8 g hx ?_;refine eW Lb hx ?_;refine gL.intro _ _ (fin F.1 F.2 alt pO.1 (by omega) dA) ?_;exact eE hx
    refine b8 g hx ?_;refine bO.intro (aB.b9 sn [0,2,3] _) ?_;refine aA hx ?_;exact⟨r.bf 2,⟨hb,by show r.p+2<=_;omega⟩,rfl⟩
   refine gI g hx ?_;refine bO.intro (aB.b9 sn [0,2,3] _) ?_;refine aA hx ?_;exact⟨r.bf 1,⟨hb,by show r.p+1<=_;omega⟩,rfl⟩
 rintro s ⟨R,hR,rfl⟩;have lX:=hR.2;have gK:=hR.1;have GV:R.ok 800000002:=hR.le (by omega);have di:∀i,i<=1000->(R.bf i).ok 1000000000:=fun i hi=>(GV.bf i).le (by omega)
 have ha:=ab6 d.alt (by omega);have S6:R.ok (d.r.p+20):=hR.le (by omega);have rq:∀i,i<=18->(R.bf i).ok (d.r.p+20):=fun i hi=>⟨gK,by show R.p+i<=_;omega⟩
 have hz:(⟨#[]⟩:ByteArray).size<=600:=by decide
 have wa:IntKind.i64.wrap (d.w.set.many+d.w.set.bB)=d.w.set.many+d.w.set.bB:=aN (by omega);have wb:IntKind.i64.wrap (d.w.set.many+d.w.set.bB+1)=d.w.set.many+d.w.set.bB+1:=aN (by omega);refine aA hx ?_;refine bX (fun g=>?_) (fun g=>?_)
 ·refine b8 g hx ?_;refine aE.intro (agz R 2 (GV.le (by omega)) (by omega)) ?_;have oi:=Yd R 2 (a:=R.p) ⟨gK,Nat.le_refl _⟩ (by omega) (by omega);have e2:(2:Int).toNat=2:=rfl;generalize tx R 2=q at *;obtain⟨x,Q⟩:=q;simp only[e2]at oi;have hQ:=oi.1.2;refine aA hx ?_;refine eW (er 3 (oi.1.le (by omega))) hx ?_;refine bX (fun g=>?_) (fun g=>?_)
  ·refine eV g hx ha ?_;refine gL.intro _ _ (fin ⟨1,0,0,x⟩ (Q.bf 1) (d.alt++[⟨#[101,118,105,108]⟩]) (lD (by decide) (by decide) (by omega)) (by simp) ⟨oi.1.1,by show Q.p+1<=_;omega⟩) ?_;simp -implicitDefEqProofs only[go_sem,hx,gj]
   first|done|rfl|exact⟨rfl,rfl⟩
  refine eV g hx ha ?_;refine gL.intro _ _ (fin ⟨1,0,0,x⟩ (Q.bf 1) (d.alt++[x]) (lD (by decide) (by decide) (by omega)) (by simp) ⟨oi.1.1,by show Q.p+1<=_;omega⟩) ?_;simp -implicitDefEqProofs only[go_sem,hx,gj]
  first|done|rfl|exact⟨rfl,rfl⟩
 refine gI g hx ?_;refine bX (fun g=>?_) (fun g=>?_)
 ·refine b8 g hx ?_;have hd3:DW.ok {d with r:=R} 900000000:=⟨GV.le (by omega),h.w,h.a⟩;have q0:=fO (n:=d.w.set.bB+1) (di 0 (by omega)) (by omega);have e0:R.bf 0=R:=rfl;rw[e0]at q0;refine eW (agy {d with r:=R} hd3) hx ?_;refine gL.intro _ _ (fin ⟨2,d.w.set.many+1+pk R (d.w.set.bB+1),0,⟨#[]⟩⟩ (R.bf 1) d.alt (lD (by decide) (by omega) hz) (by omega) (rq 1 (by omega))) ?_;refine aA hx ?_
  first|exact True.intro|rfl|exact⟨rfl,rfl⟩
 refine gI g hx ?_;refine bX (fun g=>?_) (fun g=>?_)
 ·refine dP g hx wa wb ?_;have q0:=fO (n:=6) (di 0 (by omega)) (by omega);have e0:R.bf 0=R:=rfl;rw[e0]at q0;refine ji (er (6) (di 0 (by omega))) hx wa wb ?_;refine gL.intro _ _ (fin ⟨3,0,pk R 6,⟨#[]⟩⟩ (R.bf 1) d.alt (lD (by decide) (by decide) hz) (by omega) (rq 1 (by omega))) ?_;refine aA hx ?_
  first|exact True.intro|rfl|exact⟨rfl,rfl⟩
 refine gI g hx ?_;refine bX (fun g=>?_) (fun g=>?_)
 ·refine dP g hx wa wb ?_;have q0:=fO (n:=4) (di 0 (by omega)) (by omega);have e0:R.bf 0=R:=rfl;rw[e0]at q0;refine ji (er (4) (di 0 (by omega))) hx wa wb ?_;refine gL.intro _ _ (fin ⟨6,0,pk R 4,⟨#[]⟩⟩ (R.bf 1) d.alt (lD (by decide) (by decide) hz) (by omega) (rq 1 (by omega))) ?_;refine aA hx ?_
  first|exact True.intro|rfl|exact⟨rfl,rfl⟩
 refine gI g hx ?_;refine bX (fun g=>?_) (fun g=>?_)
 ·refine dP g hx wa wb ?_;have q0:=fO (n:=2) (di 0 (by omega)) (by omega);have e0:R.bf 0=R:=rfl;rw[e0]at q0;have w0:IntKind.i64.wrap (1+pk R 2)=1+pk R 2:=aN (by omega);refine aE.intro (er (2) (di 0 (by omega))) ?_;refine dP hx wa wb w0 ?_;refine gL.intro _ _ (fin ⟨12,0,1+pk R 2,⟨#[]⟩⟩ (R.bf 1) d.alt (lD (by decide) (by decide) hz) (by omega) (rq 1 (by omega))) ?_;refine aA hx ?_
  first|exact True.intro|rfl|exact⟨rfl,rfl⟩
 refine gI g hx ?_;refine bX (fun g=>?_) (fun g=>?_)
 ·refine dP g hx wa wb ?_;have q0:=fO (n:=2) (di 0 (by omega)) (by omega);have e0:R.bf 0=R:=rfl;rw[e0]at q0;have q1:=fO (n:=5) (di 1 (by omega)) (by omega);have w0:IntKind.i64.wrap (4+pk R 2)=4+pk R 2:=aN (by omega);refine aE.intro (er (2) (di 0 (by omega))) ?_;refine dP hx wa wb w0 ?_;refine aE.intro (er (5) (di 1 (by omega))) ?_;refine dP hx wa wb w0 ?_;refine gL.intro _ _ (fin ⟨4+pk R 2,0,pk (R.bf 1) 5,⟨#[]⟩⟩ (R.bf 2) d.alt (lD (by omega) (by decide) hz) (by omega) (rq 2 (by omega))) ?_;refine aA hx ?_
  first|exact True.intro|rfl|exact⟨rfl,rfl⟩
 refine gI g hx ?_;refine bX (fun g=>?_) (fun g=>?_)
 ·refine dP g hx wa wb ?_;have q0:=fO (n:=d.w.set.many) (di 0 (by omega)) (by omega);have e0:R.bf 0=R:=rfl;rw[e0]at q0;have q1:=fO (n:=10) (di 1 (by omega)) (by omega);have w0:IntKind.i64.wrap (1+pk R d.w.set.many)=1+pk R d.w.set.many:=aN (by omega);refine aE.intro (er (d.w.set.many) (di 0 (by omega))) ?_;refine dP hx wa wb w0 ?_;refine aE.intro (er (10) (di 1 (by omega))) ?_;refine dP hx wa wb w0 ?_;refine gL.intro _ _ (fin ⟨7,1+pk R d.w.set.many,pk (R.bf 1) 10,⟨#[]⟩⟩ (R.bf 2) d.alt (lD (by decide) (by omega) hz) (by omega) (rq 2 (by omega))) ?_;refine aA hx ?_
  first|exact True.intro|rfl|exact⟨rfl,rfl⟩
 refine gI g hx ?_;refine bX (fun g=>?_) (fun g=>?_)
 ·refine dP g hx wa wb ?_;have q0:=fO (n:=d.w.set.many+d.w.set.bB+1) (di 0 (by omega)) (by omega);have e0:R.bf 0=R:=rfl;rw[e0]at q0;have w0:IntKind.i64.wrap (1+pk R (d.w.set.many+d.w.set.bB+1))=1+pk R (d.w.set.many+d.w.set.bB+1):=aN (by omega);refine aE.intro (er (d.w.set.many+d.w.set.bB+1) (di 0 (by omega))) ?_;refine dP hx wa wb w0 ?_;refine gL.intro _ _ (fin ⟨8,1+pk R (d.w.set.many+d.w.set.bB+1),0,⟨#[]⟩⟩ (R.bf 1) d.alt (lD (by decide) (by omega) hz) (by omega) (rq 1 (by omega))) ?_;refine aA hx ?_
  first|exact True.intro|rfl|exact⟨rfl,rfl⟩
 refine gI g hx ?_;refine bX (fun g=>?_) (fun g=>?_)
 ·refine dP g hx wa wb ?_;have q0:=fO (n:=d.w.set.many+d.w.set.bB+1) (di 0 (by omega)) (by omega);have e0:R.bf 0=R:=rfl;rw[e0]at q0;have w0:IntKind.i64.wrap (1+pk R (d.w.set.many+d.w.set.bB+1))=1+pk R (d.w.set.many+d.w.set.bB+1):=aN (by omega);refine aE.intro (er (d.w.set.many+d.w.set.bB+1) (di 0 (by omega))) ?_;refine dP hx wa wb w0 ?_;refine gL.intro _ _ (fin ⟨9,1+pk R (d.w.set.many+d.w.set.bB+1),0,⟨#[]⟩⟩ (R.bf 1) d.alt (lD (by decide) (by omega) hz) (by omega) (rq 1 (by omega))) ?_;refine aA hx ?_
  first|exact True.intro|rfl|exact⟨rfl,rfl⟩
 refine gI g hx ?_;refine bX (fun g=>?_) (fun g=>?_)
 ·refine dP g hx wa wb ?_;have q0:=fO (n:=d.w.set.many) (di 0 (by omega)) (by omega);have e0:R.bf 0=R:=rfl;rw[e0]at q0;have q1:=fO (n:=7) (di 1 (by omega)) (by omega);have w0:IntKind.i64.wrap (1+pk R d.w.set.many)=1+pk R d.w.set.many:=aN (by omega);refine aE.intro (er (d.w.set.many) (di 0 (by omega))) ?_;refine dP hx wa wb w0 ?_;refine aE.intro (er (7) (di 1 (by omega))) ?_;refine dP hx wa wb w0 ?_;refine gL.intro _ _ (fin ⟨10,1+pk R d.w.set.many,pk (R.bf 1) 7,⟨#[]⟩⟩ (R.bf 2) d.alt (lD (by decide) (by omega) hz) (by omega) (rq 2 (by omega))) ?_;refine aA hx ?_
  first|exact True.intro|rfl|exact⟨rfl,rfl⟩
 refine gI g hx ?_;obtain⟨r,ev,alt,w⟩:=d;try dsimp only at *
 cases ev with
 | false=>
  cases G6:decide (k<38)<;>simp -implicitDefEqProofs only[go_sem,G6,hx,bb]<;>cases G5:(k==39)<;>simp -implicitDefEqProofs only[go_sem,G5,hx,bb]
  all_goals
   refine gL.intro _ _ (fin ⟨12,0,2,⟨#[]⟩⟩ R alt (lD (by decide) (by decide) hz) (by omega) S6) ?_;refine aA hx ?_
   first|exact True.intro|rfl|exact⟨rfl,rfl⟩
 | true=>
  have CN:DW.ok ⟨R,true,alt,w⟩ 900000000:=⟨GV.le (by omega),h.w,h.a⟩;have Lb:=Vv ⟨R,true,alt,w⟩ CN;have pO:=RC ⟨R,true,alt,w⟩ CN;have dA:(sF ⟨R,true,alt,w⟩).2.ok (r.p+20):=pO.2.le (by show R.p+8<=_;omega);generalize sF ⟨R,true,alt,w⟩=F at *;cases G6:decide (k<38) with
  | true=>
   refine gI G6 hx ?_;refine eW Lb hx ?_;refine gL.intro _ _ (fin F.1 F.2 alt pO.1 (by omega) dA) ?_;refine aA hx ?_
   first|exact True.intro|rfl|exact⟨rfl,rfl⟩
  | false=>
   refine gI G6 hx ?_;cases G5:(k==39) with
   | false=>
    refine gI G5 hx ?_;refine gL.intro _ _ (fin ⟨12,0,2,⟨#[]⟩⟩ R alt (lD (by decide) (by decide) hz) (by omega) S6) ?_;refine aA hx ?_
    first|exact True.intro|rfl|exact⟨rfl,rfl⟩
   | true=>
    have q1:=fO (n:=2) (di 1 (by omega)) (by omega);have w1:IntKind.i64.wrap (8+pk (R.bf 1) 2)=8+pk (R.bf 1) 2:=aN (by omega);refine gI G5 hx ?_;refine eW (er 3 (di 0 (by omega))) hx ?_;refine bX (fun g=>?_) (fun g=>?_)
    ·refine b8 g hx ?_;refine eK (er 2 (di 1 (by omega))) hx w1 ?_;refine gL.intro _ _ (fin ⟨8+pk (R.bf 1) 2,0,0,⟨#[]⟩⟩ (R.bf 2) alt (lD (by omega) (by decide) hz) (by omega) (rq 2 (by omega))) ?_;refine aA hx ?_
     first|exact True.intro|rfl|exact⟨rfl,rfl⟩
    refine b8 g hx ?_;refine gL.intro _ _ (fin ⟨12,0,2,⟨#[]⟩⟩ (R.bf 1) alt (lD (by decide) (by decide) hz) (by omega) (rq 1 (by omega))) ?_;refine aA hx ?_
    first|exact True.intro|rfl|exact⟨rfl,rfl⟩
end
section
def aeE:cc:=⟨[(80,.cm [true,false]),(144,.cm [true])],cw,cz,false⟩
attribute [-go_sem] ei
def DW.O9 (d:DW) (l:List bQ):ak:=(1000000,0,one ⟨43,[d.cells 1],0,false⟩)::(1000001,0,one ⟨2,[d.r.cs],0,false⟩)::(0,0,one ⟨4,l.map bQ.bH,2,false⟩)::(1,0,one ⟨1,d.alt.map cF,2,false⟩)::d.w.rows 2 1
def Jr:List Nat:=[1000000,1000001]
attribute [go_sem] DW.O9 Jr
def WY (d:DW) (n:Nat) (res:AV) (σ:ak):Prop:=∃(l:List bQ) (d':DW),(res=.aw 0 0 [] 4 0 l.length/\σ=d'.O9 l)/\l.length=n/\(∀x∈l,e9 x=true)/\d'.r.ok (d.r.p+20 * n)/\d'.w.wf/\d'.w.set=d.w.set
theorem EO (l:List bQ) (h:l.length<=1000):∀x,(l.map bQ.bH++[x]).length<=maxLen/\(l.map bQ.bH++[x]).length * 40<=140737488355328:=fun x=>ed (E:=bQ.bH) (l:=l) (xs:=[x]) (b:=40) (n:=1001) (by simp;omega) (by omega) (by omega)
theorem afG (d:DW) (n:Nat) (hn:n<=80) (h:d.ok 700000000) (CR:d.alt.length<=10) (fU:d.w.book.length<=10):∃res σ,WY d n res σ/\aY Tryz.prog 91 (d.sig 1000002) [uU,vI n] res σ:=by
 refine aF aeE false Tryz.f91 ?_;conv=>enter[1];reduce
 refine vm Tryz.f91 30 [.tmp 4] (WY d n) (by kernel_rfl) (by decide +kernel) (by kernel_rfl) rfl ?_;have hx:=h.w.hx;have hp:=h.r.2;have hb:=h.r.1;refine aA hx ?_;refine im (fun m s=>∃(i:Nat) (l:List bQ) (v:DW),(i<=n/\l.length=i/\(∀x∈l,e9 x=true))/\(v.r.ok (d.r.p+20 * i)/\v.w.wf/\v.w.set=d.w.set)/\(v.alt.length<=10+i/\v.w.book.length<=10+4000000 * i)/\m=n - i/\s=⟨30,[(0,uU),(1,vI n),(5,.aw 5 0 [] 4 0 l.length),(6,vI i)],v.sig 900000++[(5,0,one ⟨4,l.map bQ.bH,2,false⟩)],1⟩) n (bO.intro (aB.b9 Jr [0,1,5,6] _) ?_) ?_
 ·refine aA hx ?_;exact⟨0,[],d,⟨aR _,rfl,by simp⟩,⟨⟨hb,Nat.le_refl _⟩,h.w,rfl⟩,⟨CR,fU⟩,rfl,rfl⟩
 rintro m s ⟨i,l,v,⟨hi,hl,iU⟩,⟨og,xI,nB⟩,⟨hva,lf⟩,rfl,rfl⟩;have c8:=xI.hx;rcases bp i n with ab|bM
 ·have ah:(i:Int)<(n:Int):=by omega
  have hw:=dx ab (show n<=maxLen by unfold maxLen;omega);have ha:=EO l (by omega);have hvp:=og.2;obtain⟨res,σ,⟨x,R,al,⟨rfl,rfl⟩,gT,ajE,hR⟩,aD⟩:=agT v ⟨og.le (by omega),xI,by omega⟩ (by omega);have KX:=OV v.w x xI gT (by omega);have dH:=xI.step gT;have ku:=(xI.We x).len;have zN:=OU v.w x;generalize eZ v.w x=u at *;have fB:=dH.hx;refine b8 ah c8 ?_;refine eK aD c8 ha ?_;refine ji KX c8 fB hw ?_;refine fh.intro (n - (i+1)) (by omega) (aB.b9 Jr [0,1,5,6] _) ?_;refine aA fB ?_;have hA:al.length<=10+(i+1):=by omega
  have hB:u.book.length<=10+4000000 * (i+1):=Nat.le_trans ku (Nat.le_trans (Nat.add_le_add_right lf 4000000) (Nat.le_of_eq (by rw[Nat.mul_succ,Nat.add_assoc])));refine⟨i+1,l++[x],⟨R,v.ev,al,u⟩,⟨ab,by simp[hl],fun y hy=>?_⟩,⟨⟨hR.1,?_⟩,dH,zN.trans nB⟩,⟨hA,hB⟩,rfl,?_⟩
  ·rcases List.mem_append.1 hy with hy|hy
   ·exact iU y hy
   rw[List.mem_singleton.1 hy];exact gT
  ·have:=hR.2;show R.p<=_;omega
  simp only[gj];exact eE zN
 have hi:i=n:=by omega
 subst hi;have ah:¬((i:Int)<(i:Int)):=by omega
 refine b8 ah c8 ?_;refine gL.intro _ _ ⟨l,v,⟨rfl,rfl⟩,hl,iU,og,xI,nB⟩ ?_;exact eE c8
end
section
def Ud:cc:=⟨[(79,.cm [false]),(90,.cm [false]),(91,.cm [true,false]),(92,.cm [true,false]),(102,.cm [false])],cw,cz,false⟩
attribute [-go_sem] ei
def DW.cK (d:DW) (p k e:Nat):List AV:=[.ptr p 0 [] 2 0 0,vI d.w.set.many,vI d.w.set.eH,vI d.w.set.bB,vI d.w.set.room,vI d.w.set.inbox,vB d.ev,.aw k 0 [] 1 0 d.alt.length]++d.w.cells (k+e) e
def DW.sK (d:DW) (a p k e:Nat):ak:=(a,0,one ⟨43,[d.cK p k e],0,false⟩)::(p,0,one ⟨2,[d.r.cs],0,false⟩)::(k,0,one ⟨1,d.alt.map cF,2,false⟩)::d.w.rows (k+e) e
attribute [go_sem] DW.cK DW.sK
def W1 (res:AV) (σ:ak):Prop:=∃(d:DW),(res=.ptr 0 0 [] 43 0 0/\σ=d.sK 0 1 2 1)/\d.r.ok 20/\d.w.wf/\d.alt=[]/\d.w.book=[]
def QF (s:et) (ev:Bool) (r:Dr):ak:=[(3,0,one ⟨43,[[.ptr 10003 0 [] 2 0 0,vI s.many,vI s.eH,vI s.bB,vI s.room,vI s.inbox,vB ev,.aG]++jL],0,false⟩),(10003,0,one ⟨2,[r.cs],0,false⟩)]
attribute [go_sem] QF
theorem Pk {a b c e f:Int}(h1:1<=a/\a<=5) (h2:1<=b/\b<=a) (h3:a<2 * b) (h4:1<=c/\c<=3) (h5:1<=e/\e<=64) (h6:1<=f/\f<=64):ij ⟨a,b,c,e,f⟩=true:=by
 have w:IntKind.i64.wrap (2 * b)=2 * b:=aN (by omega);simp only[ij,Bool.and_eq_true,cr,decide_eq_true_eq,w];exact⟨h1,h2,by omega,h4,h5,h6⟩
theorem afH (l:List UInt8) (hl:l.length<=maxLen):∃res σ,W1 res σ/\aY Tryz.prog 90 [] [.ro 1 (l.map cE)] res σ:=by
 refine yV [[0,0,0,0,0],[0,0,0,0,0,0,0]] Ud false Tryz.f90 ?_;conv=>enter[1];reduce
 refine vm Tryz.f90 85 [.tmp 2] W1 (by kernel_rfl) (by decide +kernel) (by kernel_rfl) rfl ?_;have h0:(Dr.mk (l.take 2000) 0).ok 0:=⟨List.length_take_le _ _,Nat.le_refl _⟩;have dE:=VV l hl;generalize Dr.mk (l.take 2000) 0=r at *;have hb:=h0.1;have ok:∀i,i<=1000->(r.bf i).ok 1000000000:=fun i hi=>(h0.bf i).le (by omega)
 have q0:=fO (n:=5) (ok 0 (by omega)) (by omega);have p0:=er 5 (ok 0 (by omega));have e0:r.bf 0=r:=rfl;rw[e0]at q0 p0;generalize pk r 5=a at *;have w0:IntKind.i64.wrap (1+a)=1+a:=aN (by omega);have w1:IntKind.i64.wrap ((1+a).tdiv 2)=(1+a)/2:=by rw[Int.tdiv_eq_ediv_of_nonneg (by omega)];exact aN (by omega)
 have w2:IntKind.i64.wrap ((1+a)/2+1)=(1+a)/2+1:=aN (by omega);refine au ?_;refine ep dE ?_;refine ji p0 w0 w1 w2 ?_;have w3:IntKind.i64.wrap (1+a - ((1+a)/2+1))=1+a - ((1+a)/2+1):=aN (by omega);have w4:IntKind.i64.wrap (1+a - ((1+a)/2+1)+1)=1+a - ((1+a)/2+1)+1:=aN (by omega);have q1:=fO (n:=1+a - ((1+a)/2+1)+1) (ok 1 (by omega)) (by omega);have p1:=er (1+a - ((1+a)/2+1)+1) (ok 1 (by omega));generalize pk (r.bf 1) (1+a - ((1+a)/2+1)+1)=b at *;have w5:IntKind.i64.wrap ((1+a)/2+1+b)=(1+a)/2+1+b:=aN (by omega);have q2:=fO (n:=3) (ok 2 (by omega)) (by omega);have p2:=er 3 (ok 2 (by omega));generalize pk (r.bf 2) 3=c at *;have w6:IntKind.i64.wrap (1+c)=1+c:=aN (by omega);refine b8 w3 w4 ?_;refine eW p1 w5 ?_;refine eW p2 w6 ?_;refine Ux [3] [] (fun z=>∃(s:et) (R:Dr),ij s=true/\R.ok 6/\z=⟨85,[(3,.ptr 3 0 [] 43 0 0)],QF s false R,1⟩) ?_ ?_
 ·refine au ?_;refine ep (er 3 (ok 3 (by omega))) ?_;refine bX (fun g=>?_) (fun g=>?_)
  ·have q4:=fO (n:=12) (ok 4 (by omega)) (by omega);have q5:=fO (n:=6) (ok 5 (by omega)) (by omega);have w7:IntKind.i64.wrap (1+pk (r.bf 4) 12)=1+pk (r.bf 4) 12:=aN (by omega);have w8:IntKind.i64.wrap (1+pk (r.bf 5) 6)=1+pk (r.bf 5) 6:=aN (by omega);refine aA g ?_;refine eW (er 12 (ok 4 (by omega))) w7 ?_;refine eW (er 6 (ok 5 (by omega))) w8 ?_;exact⟨⟨1+a,(1+a)/2+1+b,1+c,1+pk (r.bf 4) 12,1+pk (r.bf 5) 6⟩,r.bf 6,Pk (by omega) (by omega) (by omega) (by omega) (by omega) (by omega),⟨hb,by have:=h0.2;show r.p+6<=_;omega⟩,rfl⟩
  refine aA g ?_;exact⟨⟨1+a,(1+a)/2+1+b,1+c,12,12⟩,r.bf 4,Pk (by omega) (by omega) (by omega) (by omega) (by omega) (by omega),⟨hb,by have:=h0.2;show r.p+4<=_;omega⟩,rfl⟩
 rintro z ⟨s,R,hs,hR,rfl⟩;have fR:=zu hs;have qz:=fR.hx;have bJ:=UT s hs;have es:(gz s).set=s:=rfl;have eb:(gz s).book=[]:=rfl;generalize gz s=w at *;refine au ?_;refine ep (er 3 (hR.le (by omega))) ?_;refine Ux [3] [(8003,1)] (fun z=>z=⟨85,[(3,.ptr 3 0 [] 43 0 0)],DW.sK ⟨R.nx,decide (pk R 3>0),[],w⟩ 3 10003 20003 10000,1⟩) ?_ ?_
 ·refine au ?_;refine eW bJ qz ?_;subst es
  first|done|rfl
 rintro z rfl;refine aA qz ?_;refine gL.intro _ _ ⟨⟨R.nx,decide (pk R 3>0),[],w⟩,⟨rfl,rfl⟩,hR.nx.le (by omega),fR,rfl,eb⟩ ?_;exact eE qz
def W0 (res:AV) (σ:ak):Prop:=∃(s:et) (l:List bQ),(res=.aZ [.agg s.cs,.aw 0 0 [] 4 0 l.length]/\σ=[(0,0,one ⟨4,l.map bQ.bH,2,false⟩)])/\ij s=true/\l.length<=80/\∀x∈l,e9 x=true
theorem ahd (l:List UInt8) (hl:l.length<=maxLen):∃res σ,W0 res σ/\aY Tryz.prog 101 [] [.ro 1 (l.map cE)] res σ:=by
 refine aF Ud false Tryz.f101 ?_;conv=>enter[1];reduce
 refine vm Tryz.f101 19 [.cell 2 28,.tmp 3] W0 (by kernel_rfl) (by decide +kernel) (by kernel_rfl) rfl ?_;obtain⟨res,σ,⟨d,⟨rfl,rfl⟩,hr,hw,ha,fU⟩,dE⟩:=afH l hl;have hx:=hw.hx;have q0:=fO (r:=d.r) (n:=44) (hr.le (by omega)) (by omega);have p0:=er (r:=d.r) 44 (hr.le (by omega));obtain⟨k,hk⟩:∃k:Nat,pk d.r 44=k:=⟨(pk d.r 44).toNat,by omega⟩;rw[hk]at q0 p0;have w0:IntKind.i64.wrap (4+(k:Int))=((4+k:Nat):Int):=by rw[aN (by omega)];omega
 have cQ:d.alt.length<=10:=by rw[ha];decide
 have kJ:d.w.book.length<=10:=by rw[fU];decide
 have hd:DW.ok {d with r:=d.r.nx} 700000000:=⟨hr.nx.le (by omega),hw,Nat.le_trans cQ (by decide)⟩;have mw:4+k<=80:=by omega
 obtain⟨res,σ,⟨L,d2,⟨rfl,rfl⟩,hL,hLo,nF,oe,zN⟩,aD⟩:=afG _ (4+k) mw hd cQ kJ;have aW:=oe.hx;have Cn:d2.w.set=d.w.set:=zN;refine au ?_;refine eW dE hx ?_;refine eK p0 hx w0 ?_;refine eK aD aW Cn ?_;refine gL.intro (.aZ [.agg d.w.set.cs,.aw 0 0 [] 4 0 L.length]) [(0,0,one ⟨4,L.map bQ.bH,2,false⟩)] ⟨d.w.set,L,⟨rfl,rfl⟩,hw.so,by omega,hLo⟩ ?_;refine aA aW ?_
 first|exact True.intro|rfl
end
end Go.Proofs.YtobpfkgabdeefaaGreat.E

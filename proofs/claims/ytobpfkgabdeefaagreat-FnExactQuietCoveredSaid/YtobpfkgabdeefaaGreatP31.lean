/- Contracts: a letter is taken out of a bag, or doubled; a leaf is added to a log; Contracts: worlds send letters; Contracts: worlds note alarms, points, what was kept; Contracts: worlds note points; the reference notes events and alarms; Contracts: the reference notes alarms; Contracts: the reference notes points; Contracts: the reference notes what was kept; Contracts: worlds note what was kept -/
import Derived.Test.YtobpfkgabdeefaaGreatP18
import Derived.Test.YtobpfkgabdeefaaGreatP22
import Derived.Test.YtobpfkgabdeefaaGreatP30
import Derived.Test.YtobpfkgabdeefaaGreatP27
namespace Go.Proofs.YtobpfkgabdeefaaGreat.E
open Go Go.RowKit
set_option maxHeartbeats 4000000
set_option maxRecDepth 10000
set_option linter.unusedSimpArgs false
set_option linter.unusedVariables false
set_option linter.unusedSectionVars false
def vE:bX:=⟨[(127,.cm [false]),(180,.cm [false])],[9,10,11],[24,26,30,44,47,50,51,52,57,58,59,62,76,88,138,185,186,187,253,254,297,311],false⟩
theorem tH {n:Nat}(k:Int) (h:0<n):eE k n<n:=by
 unfold eE;have h3:0≤(k.tmod n+n).tmod n:=Int.tmod_nonneg _ (by have:=Int.lt_tmod_of_pos k (show(0:Int)<n by omega);omega);have h4:=Int.tmod_lt_of_pos (k.tmod n+n) (show(0:Int)<n by omega);omega
def Eh:aB:=⟨0,0,⟨#[]⟩⟩
theorem AU:(((0:Nat):Int)==0)=true:=rfl
theorem Ob {room:Int}(h:ny room []) (k:Int):bb Tryz.prog 110 [] [jk room [],vI k] (.ba [jk room [],.agg Eh.cs,vB false]) []:=by
 refine aA vE false Tryz.f110 ?_;conv=>enter[1];reduce
 refine bT Tryz.f110 47 [.cell 4 61,.cell 5 116,.tmp 6] (by kernel_rfl) (by decide +kernel) rfl ?_;have hc:=vY room [] (by decide);refine aw ?_;refine jm (DH h) AU ?_;refine eP hc ?_;rfl
theorem Oa {room:Int}(h:ny room []) (k:Int):bb Tryz.prog 132 [] [jk room [],vI k] (.ba [jk room [],.agg Eh.cs,vB false]) []:=by
 refine aA vE false Tryz.f132 ?_;conv=>enter[1];reduce
 refine bT Tryz.f132 55 [.cell 4 61,.cell 5 116,.tmp 6] (by kernel_rfl) (by decide +kernel) rfl ?_;have hc:=HH room [] (by decide);refine aw ?_;refine jm (Dy h) AU ?_;refine eP hc ?_;rfl
theorem VQ {room:Int}{l:List aB}(h:ny room l) (k:Int) {x:aB}(hx:l[eE k l.length]?=some x):bb Tryz.prog 110 [] [jk room l,vI k] (.ba [jk room (l.eraseIdx (eE k l.length)),.agg x.cs,vB true]) []:=by
 refine aA vE false Tryz.f110 ?_;conv=>enter[1];reduce
 refine bT Tryz.f110 47 [.cell 4 61,.cell 5 116,.tmp 6] (by kernel_rfl) (by decide +kernel) rfl ?_;have hn:=h.n;have ab:eE k l.length<l.length:=(List.getElem?_eq_some_iff.1 hx).1;have h0:0<l.length:=by omega
 have hz:((l.length:Int)==0)=false:=by rw[beq_eq_false_iff_ne];omega
 have hm:=Nj k l.length h0 (by omega);generalize eE k l.length=j at *;have hj:(j:Int)≤(l.length:Int):=by omega
 have hj1:IntKind.i64.wrap ((j:Int)+1)=((j+1:Nat):Int):=by rw[aV (by omega)];rfl
 have ql:((j+1:Nat):Int)≤(l.length:Int):=by omega
 have hj3:(0:Int)≤((j+1:Nat):Int):=Int.natCast_nonneg _;have hjN:j+1≤l.length:=ab;have e:l.eraseIdx j=l.take j++l.drop (j+1):=List.eraseIdx_eq_take_drop_succ ..;have sD:(l.take j++l.drop (j+1)).length≤64:=by rw[←e];have:=List.length_eraseIdx_le l j;omega
 have ha:((l.take j).map aB.cs++(l.drop (j+1)).map aB.cs).length≤maxLen∧((l.take j).map aB.cs++(l.drop (j+1)).map aB.cs).length * 32≤140737488355328:=by
  rw[←List.map_append,List.length_map];unfold maxLen;omega
 have ht:List.take (l.length - (j+1)) (List.drop (j+1) l)=List.drop (j+1) l:=List.take_of_length_le (by rw[List.length_drop];omega);have hw:fp 3 ((l.take j).map aB.cs++(l.drop (j+1)).map aB.cs)=true:=by rw[←List.map_append];exact aB.wide _
 have hf:dx ((l.take j).map aB.cs++(l.drop (j+1)).map aB.cs)=2:=by rw[←List.map_append];exact aB.flat _
 have hc:=vY room (l.take j++l.drop (j+1)) (by omega);simp only[jk,List.map_append]at hc;rw[e];refine aw ?_;refine jm (DH h) hz ?_;refine aq.intro hm ?_;simp -implicitDefEqProofs only[go_sem,hj,Nat.sub_zero,hj1,ql,hj3];refine aq.intro (oW (l.take j) (by rw[List.length_take];omega)) ?_;have sC:(j:Int)<(l.length:Int):=by omega
 refine nz ht ha hw hf sC hx ?_;refine aD.intro hc ?_;simp -implicitDefEqProofs only[go_sem,List.map_append,sC,hx]
theorem aeh {l:List aB}{i j:Nat}(h:i<l.length):(l.take (i+1)).eraseIdx j=if i=j then(l.take i).eraseIdx j else(l.take i).eraseIdx j++[l[i]]:=by
 have hl:(l.take i).length=i:=by rw[List.length_take];omega
 rw[List.take_succ_eq_append_getElem h];by_cases he:i=j
 ·subst he;have e2:(l.take i).eraseIdx i=l.take i:=List.eraseIdx_of_length_le (by omega);rw[if_pos rfl,e2,List.eraseIdx_append_of_length_le (by omega),hl,Nat.sub_self];simp
 rw[if_neg he];by_cases hj:j<i
 ·exact List.eraseIdx_append_of_lt_length (by omega) _
 have e2:(l.take i).eraseIdx j=l.take i:=List.eraseIdx_of_length_le (by omega);rw[e2];exact List.eraseIdx_of_length_le (by rw[List.length_append,hl];show i+1≤j;omega)
theorem VN {room:Int}{l:List aB}(h:ny room l) (k:Int) {x:aB}(hx:l[eE k l.length]?=some x):bb Tryz.prog 132 [] [jk room l,vI k] (.ba [jk room (l.eraseIdx (eE k l.length)),.agg x.cs,vB true]) []:=by
 refine aA vE false Tryz.f132 ?_;conv=>enter[1];reduce
 refine bT Tryz.f132 55 [.cell 4 61,.cell 5 116,.tmp 6] (by kernel_rfl) (by decide +kernel) rfl ?_;have hn:=h.n;have hl:l.length≤maxLen:=by unfold maxLen;omega
 have ab:eE k l.length<l.length:=(List.getElem?_eq_some_iff.1 hx).1;have h0:0<l.length:=by omega
 have hz:((l.length:Int)==0)=false:=by rw[beq_eq_false_iff_ne];omega
 have hm:=Ni k l.length h0 (by omega);generalize eE k l.length=j at *;have sC:(j:Int)<(l.length:Int):=by omega
 refine aw ?_;refine jm (Dy h) hz ?_;refine cz hm ?_;refine jX [(2007,3)] (fun m s=>∃i:Nat,i≤l.length∧m=l.length - i∧s=⟨55,[(1,vI j),(2,.ptr 2 0 [] 2 0 0),(4,.ptr 4 0 [] 2 0 0),(5,.ptr 5 0 [] 3 0 0),(7,.ptr 7 0 [] 2 0 0),(8,vI i)],[(2,0,one ⟨2,[[vI room,.ro 3 (l.map aB.cs)]],0,false⟩),(4,0,one ⟨2,[[vI 0,.aG]],0,false⟩),(5,0,one ⟨3,[Eh.cs],0,false⟩),(7,0,one ⟨2,[[vI room,.au 10007 0 [] 3 0 ((l.take i).eraseIdx j).length]],0,false⟩),(10007,0,one ⟨3,((l.take i).eraseIdx j).map aB.cs,2,false⟩)],1⟩) l.length ?_ ?_
 ·refine aw ?_;exact⟨0,aQ _,rfl,rfl⟩
 rintro m s ⟨i,hi,rfl,rfl⟩;rcases bm i l.length with kv|bH
 ·have ae:(i:Int)<(l.length:Int):=by omega
  have hg:l[i]?=some l[i]:=bz kv;have hw:=df kv hl;have aE:=aeh (l:=l) (i:=i) (j:=j) kv;have ha:=tO ((l.take i).eraseIdx j) (by have:=List.length_eraseIdx_le (l.take i) j;have:=List.length_take_le i l;omega);by_cases hc:i=j
  ·have hb:((i:Int) != (j:Int))=false:=by rw[hc];simp
   rw[if_pos hc]at aE;refine ez ae hb hw ?_;refine⟨_,by omega,i+1,kv,rfl,?_⟩;rw[aE]
  have hb:((i:Int) != (j:Int))=true:=by rw[bne_iff_ne];omega
  rw[if_neg hc]at aE;refine oe ae hb hg ha hw ?_;refine⟨_,by omega,i+1,kv,rfl,?_⟩;rw[aE];simp only[gj,aB.cs];try rfl
 have hi:i=l.length:=by omega
 subst hi;have ae:¬((l.length:Int)<(l.length:Int)):=by omega
 simp -implicitDefEqProofs only[go_sem,ae,List.take_length,sC,hx]
def sg (room:Int) (l:List aB) (k:Int):List aB:=match l[eE k l.length]? with
 | some x=>lW room l x
 | none=>l
theorem agU {room:Int}{l:List aB}(h:ny room l) (k:Int):∃b,bb Tryz.prog 111 [] [jk room l,vI k] (.ba [jk room (sg room l k),vB b]) []:=by
 have hn:=h.n;have ha:=tO l (by omega);by_cases h0:l=[]
 ·subst h0;refine⟨false,?_⟩;refine aA vE false Tryz.f111 ?_;conv=>enter[1];reduce
  refine bT Tryz.f111 42 [.cell 4 61,.tmp 5] (by kernel_rfl) (by decide +kernel) rfl ?_;have hc:=vY room [] (by decide);have e:sg room [] k=[]:=rfl;rw[e];refine aw ?_;refine jm (DH h) AU ?_;refine aD.intro hc ?_;exact dt
 have hp:0<l.length:=List.length_pos_iff.2 h0;have hz:((l.length:Int)==0)=false:=by rw[beq_eq_false_iff_ne];omega
 have hm:=Nj k l.length hp (by omega);have ab:=tH k hp;have hx:l[eE k l.length]?=some l[eE k l.length]:=bz ab;unfold sg;rw[hx];dsimp only;generalize l[eE k l.length]=x at *;generalize eE k l.length=j at *;have sC:(j:Int)<(l.length:Int):=by omega
 refine⟨!decide ((l.length:Int)≥room),?_⟩;refine aA vE false Tryz.f111 ?_;conv=>enter[1];reduce
 refine bT Tryz.f111 42 [.cell 4 61,.tmp 5] (by kernel_rfl) (by decide +kernel) rfl ?_;refine aw ?_;refine jm (DH h) hz ?_;by_cases hr:(l.length:Int)≥room
 ·have e:lW room l x=l:=if_pos hr;rw[e];refine aC hr ?_;refine aD.intro (vY room l (by omega)) ?_;exact er hr
 have e:lW room l x=l++[x]:=if_neg hr;rw[e];refine aC hr ?_;refine cz (oW l (by omega)) ?_;refine aq.intro hm ?_;refine ez sC hx ha ?_;have hc:=vY room (l++[x]) (by rw[List.length_append];show _+1≤_;omega);simp only[jk,List.map_append,List.map_cons,List.map_nil]at hc;refine aD.intro hc ?_;simp -implicitDefEqProofs only[go_sem,hr,List.map_append,List.map_cons,List.map_nil]
theorem agK {room:Int}{l:List aB}(h:ny room l) (k:Int):∃b,bb Tryz.prog 133 [] [jk room l,vI k] (.ba [jk room (sg room l k),vB b]) []:=by
 have hn:=h.n;have ha:=tO l (by omega);by_cases h0:l=[]
 ·subst h0;refine⟨false,?_⟩;refine aA vE false Tryz.f133 ?_;conv=>enter[1];reduce
  refine bT Tryz.f133 41 [.cell 4 61,.tmp 5] (by kernel_rfl) (by decide +kernel) rfl ?_;have hc:=HH room [] (by decide);have e:sg room [] k=[]:=rfl;rw[e];refine aw ?_;refine jm (Dy h) AU ?_;refine aD.intro hc ?_;exact er AU
 have hp:0<l.length:=List.length_pos_iff.2 h0;have hz:((l.length:Int)==0)=false:=by rw[beq_eq_false_iff_ne];omega
 have hm:=Ni k l.length hp (by omega);have ab:=tH k hp;have hx:l[eE k l.length]?=some l[eE k l.length]:=bz ab;unfold sg;rw[hx];dsimp only;generalize l[eE k l.length]=x at *;generalize eE k l.length=j at *;have sC:(j:Int)<(l.length:Int):=by omega
 refine⟨!decide ((l.length:Int)≥room),?_⟩;refine aA vE false Tryz.f133 ?_;conv=>enter[1];reduce
 refine bT Tryz.f133 41 [.cell 4 61,.tmp 5] (by kernel_rfl) (by decide +kernel) rfl ?_;refine aw ?_;refine cz (Dy h) ?_;refine il (HH room l (by omega)) hz ?_;by_cases hr:(l.length:Int)≥room
 ·have e:lW room l x=l:=if_pos hr;rw[e];exact er hr
 have e:lW room l x=l++[x]:=if_neg hr;rw[e];refine aC hr ?_;refine aq.intro hm ?_;simp -implicitDefEqProofs only[go_sem,hr,sC,hx,ha,List.map_append,List.map_cons,List.map_nil]
section
def Ue:bX:=⟨[(212,.cm [false,false]),(235,.cm [false,false])],[9,10,11],[24,26,30,44,47,50,51,52,57,58,59,62,76,88,138,185,186,187,253,254,297,311],false⟩
attribute [-go_sem] ei
theorem ai.wf.qE {w:ai}(h:w.wf):ny w.room w.bj:=by
 have:=d7 h.so;have:=h.rm;exact⟨by omega,h.bl,h.bg⟩
theorem YT (w:ai) (x:aB):lq w x={w with bj:=lW w.room w.bj x}:=by
 unfold lq lW;split<;>rfl
theorem Pm (w:ai) (l:List aB) {i:Nat}(h:i<l.length):fG w (l.take (i+1))={fG w (l.take i) with bj:=lW (fG w (l.take i)).room (fG w (l.take i)).bj l[i]}:=by
 rw[←YT];unfold fG;rw[List.take_succ_eq_append_getElem h,List.foldl_append];rfl
theorem DG (w:ai) (l:List aB) (h:w.wf) (hl:∀x∈l,c8 x=true) (hn:l.length≤1000):bb Tryz.prog 162 (eB w) [eA,.ro 3 (l.map aB.cs)] (.ba []) (eB (fG w l)):=by
 refine aA Ue false Tryz.f162 ?_;conv=>enter[1];reduce
 refine bT Tryz.f162 29 [] (by kernel_rfl) (by decide +kernel) rfl ?_;have hm:l.length≤maxLen:=by unfold maxLen;omega
 have hx:=dL (bs:=w.bx) (by rw[de];have:=h.nb;omega);refine aC hx ?_;refine cR (fun m s=>∃(i:Nat),i≤l.length∧m=l.length - i∧s=⟨29,[(0,eA),(8,.ro 3 (l.map aB.cs)),(9,vI l.length),(10,vI i)],eB (fG w (l.take i)),1⟩) l.length ?_ ?_
 ·refine aC hx ?_;exact⟨0,aQ _,rfl,rfl⟩
 rintro m s ⟨i,hi,rfl,rfl⟩;rcases bm i l.length with ab|bH
 ·have ae:(i:Int)<(l.length:Int):=by omega
  have hg:l[i]?=some l[i]:=bz ab;have hw:=df ab hm;have ho:=hl _ (List.getElem_mem ab);have hv:(fG w (l.take i)).wf:=h.send fun x hx=>hl x (List.mem_of_mem_take hx)
  have ht:=Pm w l ab;generalize fG w (l.take i)=v at *;have hc:=agm hv.qE ho;have aX:=dL (bs:=v.bx) (by rw[de];have:=hv.nb;omega);by_cases hr:(v.bj.length:Int)≥v.room
  ·have e:lW v.room v.bj l[i]=v.bj:=if_pos hr;rw[e]at hc ht;refine ez ae hg hw ?_;refine And.intro ?_ ?_<;>
   ·refine mb hc hr hw aX ?_;refine⟨_,by omega,i+1,ab,rfl,?_⟩;rw[ht]
  refine ez ae hg hw ?_;refine And.intro ?_ ?_<;>
  ·refine mb hc hr hw aX ?_;refine⟨_,by omega,i+1,ab,rfl,?_⟩;rw[ht];rfl
 have hi:i=l.length:=by omega
 subst hi;have ae:¬((l.length:Int)<(l.length:Int)):=by omega
 have aX:=dL (bs:=(fG w l).bx) (by rw[de];have:=(h.send hl).nb;omega);exact rM ae aX
def gm (w:ai):aj:=w.rows 1000000 1
def eJ (w:ai):aj:=w.rows 0 1
def vA (w:ai) (k:Nat):AV:=.agg (w.cells k 1)
def jL:List AV:=[vI 0,vI 0,vI 0,vI 0,vI 0,.aG,.aG,.aG]++(wh++[.aG,vI 0,.sc (.int .u64 0),.sc (.int .u64 0),.sc (.int .u64 0),.sc (.int .u64 0)])++[.aG,.aG,vI 0,.aG,.aG,vB false]
attribute [go_sem] gm eJ vA jL
theorem DD (w:ai) (l:List aB) (h:w.wf) (hl:∀x∈l,c8 x=true) (hn:l.length≤1000):bb Tryz.prog 183 (gm w) [vA w 1000000,.ro 3 (l.map aB.cs)] (vA (fG w l) 0) (eJ (fG w l)):=by
 refine aA Ue false Tryz.f183 ?_;conv=>enter[1];reduce
 refine bT Tryz.f183 27 [.cell 4 64] (by kernel_rfl) (by decide +kernel) rfl ?_;have hm:l.length≤maxLen:=by unfold maxLen;omega
 have hx:=dL (bs:=w.bx) (by rw[de];have:=h.nb;omega);refine aC hx ?_;refine cR (fun m s=>∃(i:Nat),i≤l.length∧m=l.length - i∧s=⟨27,[(1,.ro 3 (l.map aB.cs)),(2,.ptr 2 0 [] 35 0 0),(4,.ptr 4 0 [] 35 0 0),(5,vI i)],(fG w (l.take i)).rows 1000000 1++[(2,0,one ⟨35,[(fG w (l.take i)).cells 1000000 1],0,false⟩),(4,0,one ⟨35,[jL],0,false⟩)],1⟩) l.length ?_ ?_
 ·refine aC hx ?_;exact⟨0,aQ _,rfl,rfl⟩
 rintro m s ⟨i,hi,rfl,rfl⟩;rcases bm i l.length with ab|bH
 ·have ae:(i:Int)<(l.length:Int):=by omega
  have hg:l[i]?=some l[i]:=bz ab;have hw:=df ab hm;have ho:=hl _ (List.getElem_mem ab);have hv:(fG w (l.take i)).wf:=h.send fun x hx=>hl x (List.mem_of_mem_take hx)
  have ht:=Pm w l ab;generalize fG w (l.take i)=v at *;have hc:=age hv.qE ho;have aX:=dL (bs:=v.bx) (by rw[de];have:=hv.nb;omega);refine ez ae hg hw ?_;refine And.intro ?_ ?_<;>
  ·refine aD.intro hc ?_;refine eI ae hg hw aX ?_;refine⟨_,by omega,i+1,ab,rfl,?_⟩;rw[ht];rfl
 have hi:i=l.length:=by omega
 subst hi;have ae:¬((l.length:Int)<(l.length:Int)):=by omega
 have aX:=dL (bs:=(fG w l).bx) (by rw[de];have:=(h.send hl).nb;omega);exact rM ae aX
end
section
def aeH:bX:=⟨[(166,.cm [true,false])],[9,10,11],[24,26,30,44,47,50,51,52,57,58,59,62,76,88,138,185,186,187,253,254,297,311],false⟩
attribute [-go_sem] ei
theorem bb.arg {P:Program}{n:Nat}{σin σout:aj}{args qF:List AV}{res:AV}(h:bb P n σin args res σout) (hw:∀(rd:RD) (φ:b9) (vs:List Value),PW rd φ qF vs→PW rd φ args vs):bb P n σin qF res σout:=
 ⟨h.1,fun w rd φ eg qn hh eY=>h.2 w rd φ eg qn hh (hw _ _ _ eY)⟩
def dy.Ho (e:dy):List AV:=[vI e.kind,vI e.node,vI e.br,vI e.sort,vI e.code,vI e.i4.size,vU e.i4.root.a,vU e.i4.root.b,vU e.i4.root.c,vU e.i4.root.d,vI e.pt.size,vU e.pt.root.a,vU e.pt.root.b,vU e.pt.root.c,vU e.pt.root.d,.aG]
theorem TG (e:dy) (h:e.proof=[]):kC e.cs e.Ho:=by
 unfold dy.cs dy.Ho;rw[h]
 repeat' first
  | exact .nil
  | refine .cons (.inl rfl) ?_
  | refine .cons (.inr ⟨rfl,4,rfl⟩) ?_
theorem BR (w:ai) (e:dy) (h:w.book.length≤4000000000) (hb:0<w.ak.length) (hp:e.proof=[]):bb Tryz.prog 166 (eB w) [eA,.agg e.Ho] (.ba []) (im (gT w e)):=
 (VG w e h hb).arg fun rd φ vs hv=>by
  obtain⟨v,us,rfl,h1,h2⟩:=hv.kI;obtain⟨v2,XY,rfl,h3,h4⟩:=h2.kI;exact PW.cons h1 (PW.cons (h3.It (TG e hp)) h4)
theorem Wt (w:ai) (n:Int) (l:List ec) {i:Nat}(h:i<l.length):gV w n (l.take (i+1))=gT (gV w n (l.take i)) ⟨4,n,l[i].br,l[i].kind,l[i].code,l[i].held,l[i].told,[]⟩:=by
 unfold gV;rw[List.take_succ_eq_append_getElem h,List.foldl_append];rfl
theorem Nf (w:ai) (n:Int) (l:List ec) (h:w.book.length≤3900000000) (hb:0<w.ak.length) (hn:l.length≤1000):bb Tryz.prog 167 (eB w) [eA,vI n,.ro 13 (l.map ec.cs)] (.ba []) (im (gV w n l)):=by
 refine aA aeH false Tryz.f167 ?_;conv=>enter[1];reduce
 refine bT Tryz.f167 29 [] (by kernel_rfl) (by decide +kernel) rfl ?_;have hm:l.length≤maxLen:=by unfold maxLen;omega
 have hx:=dL (bs:=w.bx) (by rw[de];exact hb);refine aC hx ?_;refine iN (fun m s=>∃(i:Nat),i≤l.length∧m=l.length - i∧s=⟨29,[(0,eA),(1,vI n),(8,.ro 13 (l.map ec.cs)),(9,vI l.length),(10,vI i)],wS (gV w n (l.take i)) 900000 1,1⟩) l.length (cO.intro (aI.dm [1000000] [0,1,8,9,10] _) ?_) ?_
 ·refine aC hx ?_;exact⟨0,aQ _,rfl,rfl⟩
 rintro m s ⟨i,hi,rfl,rfl⟩;rcases bm i l.length with ab|bH
 ·have ae:(i:Int)<(l.length:Int):=by omega
  have hg:l[i]?=some l[i]:=bz ab;have hw:=df ab hm;have hv:=jG w n (l.take i);have hk:=DL w n (l.take i);have ht:=Wt w n l ab;generalize gV w n (l.take i)=v at *;have lY:v.book.length≤4000000000:=by
   obtain⟨L,e1,e2,-⟩:=hk;rw[e1,List.length_append];rw[List.length_take]at e2;omega
  have aX:=dL (bs:=v.bx) (by rw[de,hv.ak];exact hb);have hc:=BR v ⟨4,n,l[i].br,l[i].kind,l[i].code,l[i].held,l[i].told,[]⟩ lY (by rw[hv.ak];exact hb) rfl;rw[←ht]at hc;have dQ:=jG w n (l.take (i+1));generalize hu:gV w n (l.take (i+1))=u at *;have cr:=dL (bs:=u.bx) (by rw[de,dQ.ak];exact hb);refine eI ae hg hw aX ?_;refine mb hc hw aX cr ?_;refine fh.intro (l.length - (i+1)) (by omega) (aI.dm [1000000] [0,1,8,9,10] _) ?_;refine aC cr ?_;refine⟨i+1,ab,rfl,?_⟩;subst hu;rfl
 have hi:i=l.length:=by omega
 subst hi;have ae:¬((l.length:Int)<(l.length:Int)):=by omega
 have aX:=dL (bs:=(gV w n l).bx) (by rw[de,(jG w n l).ak];exact hb);exact rM ae aX
end
section
def T9:bX:=⟨[(166,.cm [true,false])],[9,10,11],[24,26,30,44,47,50,51,52,57,58,59,62,76,88,138,185,186,187,253,254,297,311],false⟩
attribute [-go_sem] ei
theorem Qe (w:ai) (k n:Int) (l:List bh) {i:Nat}(h:i<l.length):iv w k n (l.take (i+1))=gT (iv w k n (l.take i)) ⟨k,n,0,0,0,.zero,l[i],[]⟩:=by
 unfold iv;rw[List.take_succ_eq_append_getElem h,List.foldl_append];rfl
theorem M8 (w:ai) (k n:Int) (l:List bh) (h:w.book.length≤3900000000) (hb:0<w.ak.length) (hn:l.length≤1000):bb Tryz.prog 221 (eB w) [eA,vI k,vI n,.ro 5 (l.map bh.cs)] (.ba []) (im (iv w k n l)):=by
 refine aA T9 false Tryz.f221 ?_;conv=>enter[1];reduce
 refine bT Tryz.f221 23 [] (by kernel_rfl) (by decide +kernel) rfl ?_;have hm:l.length≤maxLen:=by unfold maxLen;omega
 have hx:=dL (bs:=w.bx) (by rw[de];exact hb);refine aC hx ?_;refine iN (fun m s=>∃(i:Nat),i≤l.length∧m=l.length - i∧s=⟨23,[(0,eA),(1,vI k),(2,vI n),(10,.ro 5 (l.map bh.cs)),(11,vI l.length),(12,vI i)],wS (iv w k n (l.take i)) 900000 1,1⟩) l.length (cO.intro (aI.dm [1000000] [0,1,2,10,11,12] _) ?_) ?_
 ·refine aC hx ?_;exact⟨0,aQ _,rfl,rfl⟩
 rintro m s ⟨i,hi,rfl,rfl⟩;rcases bm i l.length with ab|bH
 ·have ae:(i:Int)<(l.length:Int):=by omega
  have hg:l[i]?=some l[i]:=bz ab;have hw:=df ab hm;have hv:=ju w k n (l.take i);have hk:=rG w k n (l.take i);have ht:=Qe w k n l ab;generalize iv w k n (l.take i)=v at *;have lY:v.book.length≤4000000000:=by
   obtain⟨L,e1,e2,-⟩:=hk;rw[e1,List.length_append];rw[List.length_take]at e2;omega
  have aX:=dL (bs:=v.bx) (by rw[de,hv.ak];exact hb);have hc:=BR v ⟨k,n,0,0,0,.zero,l[i],[]⟩ lY (by rw[hv.ak];exact hb) rfl;rw[←ht]at hc;have dQ:=ju w k n (l.take (i+1));generalize hu:iv w k n (l.take (i+1))=u at *;have cr:=dL (bs:=u.bx) (by rw[de,dQ.ak];exact hb);refine eI ae hg hw aX ?_;refine mb hc hw aX cr ?_;refine fh.intro (l.length - (i+1)) (by omega) (aI.dm [1000000] [0,1,2,10,11,12] _) ?_;refine aC cr ?_;refine⟨i+1,ab,rfl,?_⟩;subst hu;rfl
 have hi:i=l.length:=by omega
 subst hi;have ae:¬((l.length:Int)<(l.length:Int)):=by omega
 have aX:=dL (bs:=(iv w k n l).bx) (by rw[de,(ju w k n l).ak];exact hb);exact rM ae aX
theorem Vj (w:ai) (e:dy) (h:w.book.length≤4000000000) (hb:0<w.ak.length):bb Tryz.prog 239 (gm w) [vA w 1000000,.agg e.cs] (vA (gT w e) 0) (eJ (gT w e)):=by
 refine aA T9 false Tryz.f239 ?_;conv=>enter[1];reduce
 refine bT Tryz.f239 12 [.cell 4 64] (by kernel_rfl) (by decide +kernel) rfl ?_;have hx:=dL (bs:=w.bx) (by rw[de];exact hb);have ha:=TH w.book h;unfold gT;simp -implicitDefEqProofs only[go_sem,ha,dy.cs,hx];simp only[gj,dy.cs];refine⟨?_,?_⟩<;>first|rfl|trivial
theorem Ce (w:ai) (e:dy) (h:w.book.length≤4000000000) (hb:0<w.ak.length) (hp:e.proof=[]):bb Tryz.prog 239 (gm w) [vA w 1000000,.agg e.Ho] (vA (gT w e) 0) (eJ (gT w e)):=
 (Vj w e h hb).arg fun rd φ vs hv=>by
  obtain⟨v,us,rfl,h1,h2⟩:=hv.kI;obtain⟨v2,XY,rfl,h3,h4⟩:=h2.kI;exact PW.cons h1 (PW.cons (h3.It (TG e hp)) h4)
end
section
def aez:bX:=⟨[(239,.cm [true,false])],[9,10,11],[24,26,30,44,47,50,51,52,57,58,59,62,76,88,138,185,186,187,253,254,297,311],false⟩
attribute [-go_sem] ei
theorem Na (w:ai) (n:Int) (l:List ec) (h:w.book.length≤3900000000) (hb:0<w.ak.length) (hn:l.length≤1000):bb Tryz.prog 187 (gm w) [vA w 1000000,vI n,.ro 13 (l.map ec.cs)] (vA (gV w n l) 0) (eJ (gV w n l)):=by
 refine aA aez false Tryz.f187 ?_;conv=>enter[1];reduce
 refine bT Tryz.f187 34 [.cell 6 64] (by kernel_rfl) (by decide +kernel) rfl ?_;have hm:l.length≤maxLen:=by unfold maxLen;omega
 have hx:=dL (bs:=w.bx) (by rw[de];exact hb);refine aC hx ?_;refine iN (fun m s=>∃(i:Nat),i≤l.length∧m=l.length - i∧s=⟨34,[(1,vI n),(2,.ro 13 (l.map ec.cs)),(3,.ptr 3 0 [] 35 0 0),(6,.ptr 6 0 [] 35 0 0),(7,vI i)],(3,0,one ⟨35,[(gV w n (l.take i)).cells 10003 10000],0,false⟩)::(gV w n (l.take i)).rows 10003 10000++[(6,0,one ⟨35,[jL],0,false⟩)],1⟩) l.length (cO.intro (aI.dm [] [1,2,3,6,7] _) ?_) ?_
 ·refine aC hx ?_;exact⟨0,aQ _,rfl,rfl⟩
 rintro m s ⟨i,hi,rfl,rfl⟩;rcases bm i l.length with ab|bH
 ·have ae:(i:Int)<(l.length:Int):=by omega
  have hg:l[i]?=some l[i]:=bz ab;have hw:=df ab hm;have hv:=jG w n (l.take i);have hk:=DL w n (l.take i);have ht:=Wt w n l ab;generalize gV w n (l.take i)=v at *;have lY:v.book.length≤4000000000:=by
   obtain⟨L,e1,e2,-⟩:=hk;rw[e1,List.length_append];rw[List.length_take]at e2;omega
  have aX:=dL (bs:=v.bx) (by rw[de,hv.ak];exact hb);have hc:=Ce v ⟨4,n,l[i].br,l[i].kind,l[i].code,l[i].held,l[i].told,[]⟩ lY (by rw[hv.ak];exact hb) rfl;rw[←ht]at hc;have dQ:=jG w n (l.take (i+1));generalize hu:gV w n (l.take (i+1))=u at *;have cr:=dL (bs:=u.bx) (by rw[de,dQ.ak];exact hb);refine eI ae hg hw aX ?_;refine mb hc hw aX cr ?_;refine fh.intro (l.length - (i+1)) (by omega) (aI.dm [] [1,2,3,6,7] _) ?_;refine aC cr ?_;refine⟨i+1,ab,rfl,?_⟩;subst hu;rfl
 have hi:i=l.length:=by omega
 subst hi;have ae:¬((l.length:Int)<(l.length:Int)):=by omega
 have aX:=dL (bs:=(gV w n l).bx) (by rw[de,(jG w n l).ak];exact hb);exact rM ae aX
end
section
def aey:bX:=⟨[(239,.cm [true,false])],[9,10,11],[24,26,30,44,47,50,51,52,57,58,59,62,76,88,138,185,186,187,253,254,297,311],false⟩
attribute [-go_sem] ei
theorem M1 (w:ai) (k n:Int) (l:List bh) (h:w.book.length≤3900000000) (hb:0<w.ak.length) (hn:l.length≤1000):bb Tryz.prog 240 (gm w) [vA w 1000000,vI k,vI n,.ro 5 (l.map bh.cs)] (vA (iv w k n l) 0) (eJ (iv w k n l)):=by
 refine aA aey false Tryz.f240 ?_;conv=>enter[1];reduce
 refine bT Tryz.f240 26 [.cell 8 64] (by kernel_rfl) (by decide +kernel) rfl ?_;have hm:l.length≤maxLen:=by unfold maxLen;omega
 have hx:=dL (bs:=w.bx) (by rw[de];exact hb);refine aC hx ?_;refine iN (fun m s=>∃(i:Nat),i≤l.length∧m=l.length - i∧s=⟨26,[(1,vI k),(2,vI n),(3,.ro 5 (l.map bh.cs)),(4,.ptr 4 0 [] 35 0 0),(8,.ptr 8 0 [] 35 0 0),(9,vI i)],(4,0,one ⟨35,[(iv w k n (l.take i)).cells 10004 10000],0,false⟩)::(iv w k n (l.take i)).rows 10004 10000++[(8,0,one ⟨35,[jL],0,false⟩)],1⟩) l.length (cO.intro (aI.dm [] [1,2,3,4,8,9] _) ?_) ?_
 ·refine aC hx ?_;exact⟨0,aQ _,rfl,rfl⟩
 rintro m s ⟨i,hi,rfl,rfl⟩;rcases bm i l.length with ab|bH
 ·have ae:(i:Int)<(l.length:Int):=by omega
  have hg:l[i]?=some l[i]:=bz ab;have hw:=df ab hm;have hv:=ju w k n (l.take i);have ng:=rG w k n (l.take i);have ht:=Qe w k n l ab;generalize iv w k n (l.take i)=v at *;have lY:v.book.length≤4000000000:=by
   obtain⟨L,e1,e2,-⟩:=ng;rw[e1,List.length_append];rw[List.length_take]at e2;omega
  have aX:=dL (bs:=v.bx) (by rw[de,hv.ak];exact hb);have hc:=Ce v ⟨k,n,0,0,0,.zero,l[i],[]⟩ lY (by rw[hv.ak];exact hb) rfl;rw[←ht]at hc;have dQ:=ju w k n (l.take (i+1));generalize hu:iv w k n (l.take (i+1))=u at *;have cr:=dL (bs:=u.bx) (by rw[de,dQ.ak];exact hb);refine eI ae hg hw aX ?_;refine mb hc hw aX cr ?_;refine fh.intro (l.length - (i+1)) (by omega) (aI.dm [] [1,2,3,4,8,9] _) ?_;refine aC cr ?_;refine⟨i+1,ab,rfl,?_⟩;subst hu;rfl
 have hi:i=l.length:=by omega
 subst hi;have ae:¬((l.length:Int)<(l.length:Int)):=by omega
 have aX:=dL (bs:=(iv w k n l).bx) (by rw[de,(ju w k n l).ak];exact hb);exact rM ae aX
end
section
def aex:bX:=⟨[(239,.cm [true,false])],[9,10,11],[24,26,30,44,47,50,51,52,57,58,59,62,76,88,138,185,186,187,253,254,297,311],false⟩
attribute [-go_sem] ei
def iK.rc (k:iK):List AV:=k.cs (.ro 4 (k.proof.map aW.cs))
attribute [go_sem] iK.rc
theorem R7 (w:ai) (n:Int) (l:List iK) {i:Nat}(h:i<l.length):fi w n (l.take (i+1))=gT (fi w n (l.take i)) ⟨2,n,0,0,0,l[i].i4,l[i].new,l[i].proof⟩:=by
 unfold fi;rw[List.take_succ_eq_append_getElem h,List.foldl_append];rfl
theorem VA (w:ai) (n:Int) (l:List iK) (h:w.book.length≤3900000000) (hb:0<w.ak.length) (hn:l.length≤1000) (hp:∀k∈l,k.proof.length≤1000):bb Tryz.prog 185 (gm w) [vA w 1000000,vI n,.ro 11 (l.map iK.rc)] (vA (fi w n l) 0) (eJ (fi w n l)):=by
 refine aA aex false Tryz.f185 ?_;conv=>enter[1];reduce
 refine bT Tryz.f185 36 [.cell 6 64] (by kernel_rfl) (by decide +kernel) rfl ?_;have hm:l.length≤maxLen:=by unfold maxLen;omega
 have hx:=dL (bs:=w.bx) (by rw[de];exact hb);refine aC hx ?_;refine iN (fun m s=>∃(i:Nat),i≤l.length∧m=l.length - i∧s=⟨36,[(1,vI n),(2,.ro 11 (l.map iK.rc)),(3,.ptr 3 0 [] 35 0 0),(6,.ptr 6 0 [] 35 0 0),(7,vI i)],(3,0,one ⟨35,[(fi w n (l.take i)).cells 10003 10000],0,false⟩)::(fi w n (l.take i)).rows 10003 10000++[(6,0,one ⟨35,[jL],0,false⟩)],1⟩) l.length (cO.intro (aI.dm [] [1,2,3,6,7] _) ?_) ?_
 ·refine aC hx ?_;exact⟨0,aQ _,rfl,rfl⟩
 rintro m s ⟨i,hi,rfl,rfl⟩;rcases bm i l.length with ab|bH
 ·have ae:(i:Int)<(l.length:Int):=by omega
  have hg:l[i]?=some l[i]:=bz ab;have hw:=df ab hm;have hv:=nh w n (l.take i);have hk:=v5 w n (l.take i) (fun k hk=>hp k (List.mem_of_mem_take hk));have ht:=R7 w n l ab;generalize fi w n (l.take i)=v at *;have lY:v.book.length≤4000000000:=by
   obtain⟨L,e1,e2,-⟩:=hk;rw[e1,List.length_append];rw[List.length_take]at e2;omega
  have aX:=dL (bs:=v.bx) (by rw[de,hv.ak];exact hb);have hc:=Vj v ⟨2,n,0,0,0,l[i].i4,l[i].new,l[i].proof⟩ lY (by rw[hv.ak];exact hb);rw[←ht]at hc;have dQ:=nh w n (l.take (i+1));generalize hu:fi w n (l.take (i+1))=u at *;have cr:=dL (bs:=u.bx) (by rw[de,dQ.ak];exact hb);refine eI ae hg hw aX ?_;refine mb hc hw aX cr ?_;refine fh.intro (l.length - (i+1)) (by omega) (aI.dm [] [1,2,3,6,7] _) ?_;refine aC cr ?_;refine⟨i+1,ab,rfl,?_⟩;subst hu;rfl
 have hi:i=l.length:=by omega
 subst hi;have ae:¬((l.length:Int)<(l.length:Int)):=by omega
 have aX:=dL (bs:=(fi w n l).bx) (by rw[de,(nh w n l).ak];exact hb);exact rM ae aX
end
section
def aew:bX:=⟨[(166,.cm [true,false])],[9,10,11],[24,26,30,44,47,50,51,52,57,58,59,62,76,88,138,185,186,187,253,254,297,311],false⟩
attribute [-go_sem] ei
theorem VH (w:ai) (n:Int) (l:List iK) (h:w.book.length≤3900000000) (hb:0<w.ak.length) (hn:l.length≤1000) (hp:∀k∈l,k.proof.length≤1000):bb Tryz.prog 164 (eB w) [eA,vI n,.ro 11 (l.map iK.rc)] (.ba []) (im (fi w n l)):=by
 refine aA aew false Tryz.f164 ?_;conv=>enter[1];reduce
 refine bT Tryz.f164 28 [] (by kernel_rfl) (by decide +kernel) rfl ?_;have hm:l.length≤maxLen:=by unfold maxLen;omega
 have hx:=dL (bs:=w.bx) (by rw[de];exact hb);refine aC hx ?_;refine iN (fun m s=>∃(i:Nat),i≤l.length∧m=l.length - i∧s=⟨28,[(0,eA),(1,vI n),(8,.ro 11 (l.map iK.rc)),(9,vI l.length),(10,vI i)],wS (fi w n (l.take i)) 900000 1,1⟩) l.length (cO.intro (aI.dm [1000000] [0,1,8,9,10] _) ?_) ?_
 ·refine aC hx ?_;exact⟨0,aQ _,rfl,rfl⟩
 rintro m s ⟨i,hi,rfl,rfl⟩;rcases bm i l.length with ab|bH
 ·have ae:(i:Int)<(l.length:Int):=by omega
  have hg:l[i]?=some l[i]:=bz ab;have hw:=df ab hm;have hv:=nh w n (l.take i);have hk:=v5 w n (l.take i) (fun k hk=>hp k (List.mem_of_mem_take hk));have ht:=R7 w n l ab;generalize fi w n (l.take i)=v at *;have lY:v.book.length≤4000000000:=by
   obtain⟨L,e1,e2,-⟩:=hk;rw[e1,List.length_append];rw[List.length_take]at e2;omega
  have aX:=dL (bs:=v.bx) (by rw[de,hv.ak];exact hb);have hc:=VG v ⟨2,n,0,0,0,l[i].i4,l[i].new,l[i].proof⟩ lY (by rw[hv.ak];exact hb);rw[←ht]at hc;have dQ:=nh w n (l.take (i+1));generalize hu:fi w n (l.take (i+1))=u at *;have cr:=dL (bs:=u.bx) (by rw[de,dQ.ak];exact hb);refine eI ae hg hw aX ?_;refine jm (DI l[i].proof (by have:=hp _ (List.getElem_mem ab);omega)) aX ?_;refine mb hc hw aX cr ?_;refine fh.intro (l.length - (i+1)) (by omega) (aI.dm [1000000] [0,1,8,9,10] _) ?_;refine aC cr ?_;refine⟨i+1,ab,rfl,?_⟩;subst hu;rfl
 have hi:i=l.length:=by omega
 subst hi;have ae:¬((l.length:Int)<(l.length:Int)):=by omega
 have aX:=dL (bs:=(fi w n l).bx) (by rw[de,(nh w n l).ak];exact hb);exact rM ae aX
end
end Go.Proofs.YtobpfkgabdeefaaGreat.E

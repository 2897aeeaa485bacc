/- Contracts: a letter is taken out of a bag, or doubled; a leaf is added to a log; Contracts: worlds send letters; Contracts: worlds note alarms, points, what was kept; Contracts: worlds note points; the reference notes events and alarms; Contracts: the reference notes alarms; Contracts: the reference notes points; Contracts: the reference notes what was kept; Contracts: worlds note what was kept -/
import Derived.Test.YtobpfkgabdeefaaGreatQ30
namespace Go.Proofs.YtobpfkgabdeefaaGreat.E
open Go Go.RowKit
set_option maxHeartbeats 4000000
set_option maxRecDepth 10000
set_option linter.unusedSimpArgs false
set_option linter.unusedVariables false
set_option linter.unusedSectionVars false
def vT:cc:=⟨[(127,.cm [false]),(180,.cm [false])],cw,cz,false⟩
theorem tV {n:Nat}(k:Int) (h:0<n):eP k n<n:=by
 unfold eP;have h3:0<=(k.tmod n+n).tmod n:=Int.tmod_nonneg _ (by have:=Int.lt_tmod_of_pos k (show(0:Int)<n by omega);omega);have h4:=Int.tmod_lt_of_pos (k.tmod n+n) (show(0:Int)<n by omega);omega
def Eg:aC:=⟨0,0,⟨#[]⟩⟩
theorem AO:(((0:Nat):Int)==0)=true:=rfl
theorem NV {room:Int}(h:nk room []) (k:Int):aY Tryz.prog 110 [] [iL room [],vI k] (.aZ [iL room [],.agg Eg.cs,vB false]) []:=by
 refine aF vT false Tryz.f110 ?_;conv=>enter[1];reduce
 refine bI Tryz.f110 47 [.cell 4 61,.cell 5 116,.tmp 6] (by kernel_rfl) (by decide +kernel) rfl ?_;have hc:=wm room [] (by decide);refine au ?_;refine jj (DD h) AO ?_;refine ep hc ?_;rfl
theorem NU {room:Int}(h:nk room []) (k:Int):aY Tryz.prog 132 [] [iL room [],vI k] (.aZ [iL room [],.agg Eg.cs,vB false]) []:=by
 refine aF vT false Tryz.f132 ?_;conv=>enter[1];reduce
 refine bI Tryz.f132 55 [.cell 4 61,.cell 5 116,.tmp 6] (by kernel_rfl) (by decide +kernel) rfl ?_;have hc:=HI room [] (by decide);refine au ?_;refine jj (yA h) AO ?_;refine ep hc ?_;rfl
theorem VT {room:Int}{l:List aC}(h:nk room l) (k:Int) {x:aC}(hx:l[eP k l.length]?=some x):aY Tryz.prog 110 [] [iL room l,vI k] (.aZ [iL room (l.eraseIdx (eP k l.length)),.agg x.cs,vB true]) []:=by
 refine aF vT false Tryz.f110 ?_;conv=>enter[1];reduce
 refine bI Tryz.f110 47 [.cell 4 61,.cell 5 116,.tmp 6] (by kernel_rfl) (by decide +kernel) rfl ?_;have hn:=h.n;have ab:eP k l.length<l.length:=(List.getElem?_eq_some_iff.1 hx).1;have h0:0<l.length:=by omega
 have hz:((l.length:Int)==0)=false:=by rw[beq_eq_false_iff_ne];omega
 have hm:=M3 k l.length h0 (by omega);generalize eP k l.length=j at *;have hj:(j:Int)<=(l.length:Int):=by omega
 have hj1:IntKind.i64.wrap ((j:Int)+1)=((j+1:Nat):Int):=by rw[aN (by omega)];rfl
 have vE:((j+1:Nat):Int)<=(l.length:Int):=by omega
 have hj3:(0:Int)<=((j+1:Nat):Int):=Int.natCast_nonneg _;have hjN:j+1<=l.length:=ab;have e:l.eraseIdx j=l.take j++l.drop (j+1):=List.eraseIdx_eq_take_drop_succ ..;have sW:(l.take j++l.drop (j+1)).length<=64:=by rw[<-e];have:=List.length_eraseIdx_le l j;omega
 have ha:((l.take j).map aC.cs++(l.drop (j+1)).map aC.cs).length<=maxLen/\((l.take j).map aC.cs++(l.drop (j+1)).map aC.cs).length * 32<=140737488355328:=by
  rw[<-List.map_append,List.length_map];unfold maxLen;omega
 have ht:List.take (l.length - (j+1)) (List.drop (j+1) l)=List.drop (j+1) l:=List.take_of_length_le (by rw[List.length_drop];omega);have hw:fN 3 ((l.take j).map aC.cs++(l.drop (j+1)).map aC.cs)=true:=by rw[<-List.map_append];exact aC.wide _
 have hf:dJ ((l.take j).map aC.cs++(l.drop (j+1)).map aC.cs)=2:=by rw[<-List.map_append];exact aC.flat _
 have hc:=wm room (l.take j++l.drop (j+1)) (by omega);simp only[iL,List.map_append]at hc;rw[e];refine au ?_;refine jj (DD h) hz ?_;refine aq.intro hm ?_;simp -implicitDefEqProofs only[go_sem,hj,Nat.sub_zero,hj1,vE,hj3];refine aq.intro (pe (l.take j) (by rw[List.length_take];omega)) ?_;have sU:(j:Int)<(l.length:Int):=by omega
 refine nS ht ha hw hf sU hx ?_;refine aE.intro hc ?_;simp -implicitDefEqProofs only[go_sem,List.map_append,sU,hx]
theorem aet {l:List aC}{i j:Nat}(h:i<l.length):(l.take (i+1)).eraseIdx j=if i=j then(l.take i).eraseIdx j else(l.take i).eraseIdx j++[l[i]]:=by
 have hl:(l.take i).length=i:=by rw[List.length_take];omega
 rw[List.take_succ_eq_append_getElem h];by_cases he:i=j
 ·subst he;have e2:(l.take i).eraseIdx i=l.take i:=List.eraseIdx_of_length_le (by omega);rw[if_pos rfl,e2,List.eraseIdx_append_of_length_le (by omega),hl,Nat.sub_self];simp
 rw[if_neg he];by_cases hj:j<i
 ·exact List.eraseIdx_append_of_lt_length (by omega) _
 have e2:(l.take i).eraseIdx j=l.take i:=List.eraseIdx_of_length_le (by omega);rw[e2];exact List.eraseIdx_of_length_le (by rw[List.length_append,hl];show i+1<=j;omega)
theorem VQ {room:Int}{l:List aC}(h:nk room l) (k:Int) {x:aC}(hx:l[eP k l.length]?=some x):aY Tryz.prog 132 [] [iL room l,vI k] (.aZ [iL room (l.eraseIdx (eP k l.length)),.agg x.cs,vB true]) []:=by
 refine aF vT false Tryz.f132 ?_;conv=>enter[1];reduce
 refine bI Tryz.f132 55 [.cell 4 61,.cell 5 116,.tmp 6] (by kernel_rfl) (by decide +kernel) rfl ?_;have hn:=h.n;have hl:l.length<=maxLen:=by unfold maxLen;omega
 have ab:eP k l.length<l.length:=(List.getElem?_eq_some_iff.1 hx).1;have h0:0<l.length:=by omega
 have hz:((l.length:Int)==0)=false:=by rw[beq_eq_false_iff_ne];omega
 have hm:=M1 k l.length h0 (by omega);generalize eP k l.length=j at *;have sU:(j:Int)<(l.length:Int):=by omega
 refine au ?_;refine jj (yA h) hz ?_;refine cT hm ?_;refine mj [(2007,3)] (fun m s=>∃i:Nat,i<=l.length/\m=l.length - i/\s=⟨55,[(1,vI j),(2,.ptr 2 0 [] 2 0 0),(4,.ptr 4 0 [] 2 0 0),(5,.ptr 5 0 [] 3 0 0),(7,.ptr 7 0 [] 2 0 0),(8,vI i)],[(2,0,one ⟨2,[[vI room,.ro 3 (l.map aC.cs)]],0,false⟩),(4,0,one ⟨2,[[vI 0,.aG]],0,false⟩),(5,0,one ⟨3,[Eg.cs],0,false⟩),(7,0,one ⟨2,[[vI room,.aw 10007 0 [] 3 0 ((l.take i).eraseIdx j).length]],0,false⟩),(10007,0,one ⟨3,((l.take i).eraseIdx j).map aC.cs,2,false⟩)],1⟩) l.length ?_ ?_
 ·refine au ?_;exact⟨0,aR _,rfl,rfl⟩
 rintro m s ⟨i,hi,rfl,rfl⟩;rcases bp i l.length with kH|bM
 ·have ah:(i:Int)<(l.length:Int):=by omega
  have hg:l[i]?=some l[i]:=bm kH;have hw:=dx kH hl;have aD:=aet (l:=l) (i:=i) (j:=j) kH;have ha:=tZ ((l.take i).eraseIdx j) (by have:=List.length_eraseIdx_le (l.take i) j;have:=List.length_take_le i l;omega);by_cases hc:i=j
  ·have hb:((i:Int) != (j:Int))=false:=by rw[hc];simp
   rw[if_pos hc]at aD;refine eV ah hb hw ?_;refine⟨_,by omega,i+1,kH,rfl,?_⟩;rw[aD]
  have hb:((i:Int) != (j:Int))=true:=by rw[bne_iff_ne];omega
  rw[if_neg hc]at aD;refine qc ah hb hg ha hw ?_;refine⟨_,by omega,i+1,kH,rfl,?_⟩;rw[aD];simp only[gj,aC.cs];try rfl
 have hi:i=l.length:=by omega
 subst hi;have ah:¬((l.length:Int)<(l.length:Int)):=by omega
 simp -implicitDefEqProofs only[go_sem,ah,List.take_length,sU,hx]
def sH (room:Int) (l:List aC) (k:Int):List aC:=match l[eP k l.length]? with
 | some x=>mh room l x
 | none=>l
theorem ag7 {room:Int}{l:List aC}(h:nk room l) (k:Int):∃b,aY Tryz.prog 111 [] [iL room l,vI k] (.aZ [iL room (sH room l k),vB b]) []:=by
 have hn:=h.n;have ha:=tZ l (by omega);by_cases h0:l=[]
 ·subst h0;refine⟨false,?_⟩;refine aF vT false Tryz.f111 ?_;conv=>enter[1];reduce
  refine bI Tryz.f111 42 [.cell 4 61,.tmp 5] (by kernel_rfl) (by decide +kernel) rfl ?_;have hc:=wm room [] (by decide);have e:sH room [] k=[]:=rfl;rw[e];refine au ?_;refine jj (DD h) AO ?_;refine aE.intro hc ?_;exact dy
 have hp:0<l.length:=List.length_pos_iff.2 h0;have hz:((l.length:Int)==0)=false:=by rw[beq_eq_false_iff_ne];omega
 have hm:=M3 k l.length hp (by omega);have ab:=tV k hp;have hx:l[eP k l.length]?=some l[eP k l.length]:=bm ab;unfold sH;rw[hx];dsimp only;generalize l[eP k l.length]=x at *;generalize eP k l.length=j at *;have sU:(j:Int)<(l.length:Int):=by omega
 refine⟨!decide ((l.length:Int)>=room),?_⟩;refine aF vT false Tryz.f111 ?_;conv=>enter[1];reduce
 refine bI Tryz.f111 42 [.cell 4 61,.tmp 5] (by kernel_rfl) (by decide +kernel) rfl ?_;refine au ?_;refine jj (DD h) hz ?_;by_cases hr:(l.length:Int)>=room
 ·have e:mh room l x=l:=if_pos hr;rw[e];refine aA hr ?_;refine aE.intro (wm room l (by omega)) ?_;exact eE hr
 have e:mh room l x=l++[x]:=if_neg hr;rw[e];refine aA hr ?_;refine cT (pe l (by omega)) ?_;refine aq.intro hm ?_;refine eV sU hx ha ?_;have hc:=wm room (l++[x]) (by rw[List.length_append];show _+1<=_;omega);simp only[iL,List.map_append,List.map_cons,List.map_nil]at hc;refine aE.intro hc ?_;simp -implicitDefEqProofs only[go_sem,hr,List.map_append,List.map_cons,List.map_nil]
theorem agX {room:Int}{l:List aC}(h:nk room l) (k:Int):∃b,aY Tryz.prog 133 [] [iL room l,vI k] (.aZ [iL room (sH room l k),vB b]) []:=by
 have hn:=h.n;have ha:=tZ l (by omega);by_cases h0:l=[]
 ·subst h0;refine⟨false,?_⟩;refine aF vT false Tryz.f133 ?_;conv=>enter[1];reduce
  refine bI Tryz.f133 41 [.cell 4 61,.tmp 5] (by kernel_rfl) (by decide +kernel) rfl ?_;have hc:=HI room [] (by decide);have e:sH room [] k=[]:=rfl;rw[e];refine au ?_;refine jj (yA h) AO ?_;refine aE.intro hc ?_;exact eE AO
 have hp:0<l.length:=List.length_pos_iff.2 h0;have hz:((l.length:Int)==0)=false:=by rw[beq_eq_false_iff_ne];omega
 have hm:=M1 k l.length hp (by omega);have ab:=tV k hp;have hx:l[eP k l.length]?=some l[eP k l.length]:=bm ab;unfold sH;rw[hx];dsimp only;generalize l[eP k l.length]=x at *;generalize eP k l.length=j at *;have sU:(j:Int)<(l.length:Int):=by omega
 refine⟨!decide ((l.length:Int)>=room),?_⟩;refine aF vT false Tryz.f133 ?_;conv=>enter[1];reduce
 refine bI Tryz.f133 41 [.cell 4 61,.tmp 5] (by kernel_rfl) (by decide +kernel) rfl ?_;refine au ?_;refine cT (yA h) ?_;refine eW (HI room l (by omega)) hz ?_;by_cases hr:(l.length:Int)>=room
 ·have e:mh room l x=l:=if_pos hr;rw[e];exact eE hr
 have e:mh room l x=l++[x]:=if_neg hr;rw[e];refine aA hr ?_;refine aq.intro hm ?_;simp -implicitDefEqProofs only[go_sem,hr,sU,hx,ha,List.map_append,List.map_cons,List.map_nil]
section
def Um:cc:=⟨[(212,.cm [false,false]),(235,.cm [false,false])],cw,cz,false⟩
attribute [-go_sem] ei
theorem ae.wf.oD {w:ae}(h:w.wf):nk w.room w.aO:=by
 have:=ea h.so;have:=h.rm;exact⟨by omega,h.bl,h.bg⟩
theorem Y5 (w:ae) (x:aC):lK w x={w with aO:=mh w.room w.aO x}:=by
 unfold lK mh;split<;>rfl
theorem Pn (w:ae) (l:List aC) {i:Nat}(h:i<l.length):fP w (l.take (i+1))={fP w (l.take i) with aO:=mh (fP w (l.take i)).room (fP w (l.take i)).aO l[i]}:=by
 rw[<-Y5];unfold fP;rw[List.take_succ_eq_append_getElem h,List.foldl_append];rfl
theorem DC (w:ae) (l:List aC) (h:w.wf) (hl:∀x∈l,df x=true) (hn:l.length<=1000):aY Tryz.prog 162 (eL w) [eI,.ro 3 (l.map aC.cs)] (.aZ []) (eL (fP w l)):=by
 refine aF Um false Tryz.f162 ?_;conv=>enter[1];reduce
 refine bI Tryz.f162 29 [] (by kernel_rfl) (by decide +kernel) rfl ?_;have hm:l.length<=maxLen:=by unfold maxLen;omega
 have hx:=dR (bs:=w.bx) (by rw[dh];have:=h.nb;omega);refine aA hx ?_;refine dq (fun m s=>∃(i:Nat),i<=l.length/\m=l.length - i/\s=⟨29,[(0,eI),(8,.ro 3 (l.map aC.cs)),(9,vI l.length),(10,vI i)],eL (fP w (l.take i)),1⟩) l.length ?_ ?_
 ·refine aA hx ?_;exact⟨0,aR _,rfl,rfl⟩
 rintro m s ⟨i,hi,rfl,rfl⟩;rcases bp i l.length with ab|bM
 ·have ah:(i:Int)<(l.length:Int):=by omega
  have hg:l[i]?=some l[i]:=bm ab;have hw:=dx ab hm;have ho:=hl _ (List.getElem_mem ab);have hv:(fP w (l.take i)).wf:=h.send fun x hx=>hl x (List.mem_of_mem_take hx)
  have ht:=Pn w l ab;generalize fP w (l.take i)=v at *;have hc:=agw hv.oD ho;have aW:=dR (bs:=v.bx) (by rw[dh];have:=hv.nb;omega);by_cases hr:(v.aO.length:Int)>=v.room
  ·have e:mh v.room v.aO l[i]=v.aO:=if_pos hr;rw[e]at hc ht;refine eV ah hg hw ?_;refine And.intro ?_ ?_<;>
   ·refine ji hc hr hw aW ?_;refine⟨_,by omega,i+1,ab,rfl,?_⟩;rw[ht]
  refine eV ah hg hw ?_;refine And.intro ?_ ?_<;>
  ·refine ji hc hr hw aW ?_;refine⟨_,by omega,i+1,ab,rfl,?_⟩;rw[ht];rfl
 have hi:i=l.length:=by omega
 subst hi;have ah:¬((l.length:Int)<(l.length:Int)):=by omega
 have aW:=dR (bs:=(fP w l).bx) (by rw[dh];have:=(h.send hl).nb;omega);exact sg ah aW
def gJ (w:ae):ak:=w.rows 1000000 1
def eX (w:ae):ak:=w.rows 0 1
def vA (w:ae) (k:Nat):AV:=.agg (w.cells k 1)
def jL:List AV:=[vI 0,vI 0,vI 0,vI 0,vI 0,.aG,.aG,.aG]++(wE++[.aG,vI 0,.sc (.int .u64 0),.sc (.int .u64 0),.sc (.int .u64 0),.sc (.int .u64 0)])++[.aG,.aG,vI 0,.aG,.aG,vB false]
attribute [go_sem] gJ eX vA jL
theorem Dz (w:ae) (l:List aC) (h:w.wf) (hl:∀x∈l,df x=true) (hn:l.length<=1000):aY Tryz.prog 183 (gJ w) [vA w 1000000,.ro 3 (l.map aC.cs)] (vA (fP w l) 0) (eX (fP w l)):=by
 refine aF Um false Tryz.f183 ?_;conv=>enter[1];reduce
 refine bI Tryz.f183 27 [.cell 4 64] (by kernel_rfl) (by decide +kernel) rfl ?_;have hm:l.length<=maxLen:=by unfold maxLen;omega
 have hx:=dR (bs:=w.bx) (by rw[dh];have:=h.nb;omega);refine aA hx ?_;refine dq (fun m s=>∃(i:Nat),i<=l.length/\m=l.length - i/\s=⟨27,[(1,.ro 3 (l.map aC.cs)),(2,.ptr 2 0 [] 35 0 0),(4,.ptr 4 0 [] 35 0 0),(5,vI i)],(fP w (l.take i)).rows 1000000 1++[(2,0,one ⟨35,[(fP w (l.take i)).cells 1000000 1],0,false⟩),(4,0,one ⟨35,[jL],0,false⟩)],1⟩) l.length ?_ ?_
 ·refine aA hx ?_;exact⟨0,aR _,rfl,rfl⟩
 rintro m s ⟨i,hi,rfl,rfl⟩;rcases bp i l.length with ab|bM
 ·have ah:(i:Int)<(l.length:Int):=by omega
  have hg:l[i]?=some l[i]:=bm ab;have hw:=dx ab hm;have ho:=hl _ (List.getElem_mem ab);have hv:(fP w (l.take i)).wf:=h.send fun x hx=>hl x (List.mem_of_mem_take hx)
  have ht:=Pn w l ab;generalize fP w (l.take i)=v at *;have hc:=agp hv.oD ho;have aW:=dR (bs:=v.bx) (by rw[dh];have:=hv.nb;omega);refine eV ah hg hw ?_;refine And.intro ?_ ?_<;>
  ·refine aE.intro hc ?_;refine dP ah hg hw aW ?_;refine⟨_,by omega,i+1,ab,rfl,?_⟩;rw[ht];rfl
 have hi:i=l.length:=by omega
 subst hi;have ah:¬((l.length:Int)<(l.length:Int)):=by omega
 have aW:=dR (bs:=(fP w l).bx) (by rw[dh];have:=(h.send hl).nb;omega);exact sg ah aW
end
section
def aeW:cc:=⟨[(166,.cm [true,false])],cw,cz,false⟩
attribute [-go_sem] ei
theorem aY.arg {P:Program}{n:Nat}{σin σout:ak}{args qT:List AV}{res:AV}(h:aY P n σin args res σout) (hw:∀(rd:RD) (φ:cj) (vs:List Value),PW rd φ qT vs->PW rd φ args vs):aY P n σin qT res σout:=
 ⟨h.1,fun w rd φ ew qC hh fL=>h.2 w rd φ ew qC hh (hw _ _ _ fL)⟩
def dK.Hs (e:dK):List AV:=[vI e.kind,vI e.node,vI e.bh,vI e.sort,vI e.code,vI e.jn.size,vU e.jn.root.a,vU e.jn.root.b,vU e.jn.root.c,vU e.jn.root.d,vI e.pt.size,vU e.pt.root.a,vU e.pt.root.b,vU e.pt.root.c,vU e.pt.root.d,.aG]
theorem TO (e:dK) (h:e.proof=[]):kP e.cs e.Hs:=by
 unfold dK.cs dK.Hs;rw[h]
 repeat' first
  | exact .nil
  | refine .cons (.inl rfl) ?_
  | refine .cons (.inr ⟨rfl,4,rfl⟩) ?_
theorem BK (w:ae) (e:dK) (h:w.book.length<=4000000000) (hb:0<w.ai.length) (hp:e.proof=[]):aY Tryz.prog 166 (eL w) [eI,.agg e.Hs] (.aZ []) (iA (ik w e)):=
 (VJ w e h hb).arg fun rd φ vs hv=>by
  obtain⟨v,us,rfl,h1,h2⟩:=hv.kV;obtain⟨v2,X7,rfl,h3,h4⟩:=h2.kV;exact PW.cons h1 (PW.cons (h3.Iq (TO e hp)) h4)
theorem Wz (w:ae) (n:Int) (l:List ez) {i:Nat}(h:i<l.length):il w n (l.take (i+1))=ik (il w n (l.take i)) ⟨4,n,l[i].bh,l[i].kind,l[i].code,l[i].held,l[i].told,[]⟩:=by
 unfold il;rw[List.take_succ_eq_append_getElem h,List.foldl_append];rfl
theorem MY (w:ae) (n:Int) (l:List ez) (h:w.book.length<=3900000000) (hb:0<w.ai.length) (hn:l.length<=1000):aY Tryz.prog 167 (eL w) [eI,vI n,.ro 13 (l.map ez.cs)] (.aZ []) (iA (il w n l)):=by
 refine aF aeW false Tryz.f167 ?_;conv=>enter[1];reduce
 refine bI Tryz.f167 29 [] (by kernel_rfl) (by decide +kernel) rfl ?_;have hm:l.length<=maxLen:=by unfold maxLen;omega
 have hx:=dR (bs:=w.bx) (by rw[dh];exact hb);refine aA hx ?_;refine im (fun m s=>∃(i:Nat),i<=l.length/\m=l.length - i/\s=⟨29,[(0,eI),(1,vI n),(8,.ro 13 (l.map ez.cs)),(9,vI l.length),(10,vI i)],wS (il w n (l.take i)) 900000 1,1⟩) l.length (bO.intro (aB.b9 [1000000] [0,1,8,9,10] _) ?_) ?_
 ·refine aA hx ?_;exact⟨0,aR _,rfl,rfl⟩
 rintro m s ⟨i,hi,rfl,rfl⟩;rcases bp i l.length with ab|bM
 ·have ah:(i:Int)<(l.length:Int):=by omega
  have hg:l[i]?=some l[i]:=bm ab;have hw:=dx ab hm;have hv:=gG w n (l.take i);have hk:=DH w n (l.take i);have ht:=Wz w n l ab;generalize il w n (l.take i)=v at *;have lf:v.book.length<=4000000000:=by
   obtain⟨L,e1,e2,-⟩:=hk;rw[e1,List.length_append];rw[List.length_take]at e2;omega
  have aW:=dR (bs:=v.bx) (by rw[dh,hv.ai];exact hb);have hc:=BK v ⟨4,n,l[i].bh,l[i].kind,l[i].code,l[i].held,l[i].told,[]⟩ lf (by rw[hv.ai];exact hb) rfl;rw[<-ht]at hc;have dH:=gG w n (l.take (i+1));generalize hu:il w n (l.take (i+1))=u at *;have cD:=dR (bs:=u.bx) (by rw[dh,dH.ai];exact hb);refine dP ah hg hw aW ?_;refine ji hc hw aW cD ?_;refine fh.intro (l.length - (i+1)) (by omega) (aB.b9 [1000000] [0,1,8,9,10] _) ?_;refine aA cD ?_;refine⟨i+1,ab,rfl,?_⟩;subst hu;rfl
 have hi:i=l.length:=by omega
 subst hi;have ah:¬((l.length:Int)<(l.length:Int)):=by omega
 have aW:=dR (bs:=(il w n l).bx) (by rw[dh,(gG w n l).ai];exact hb);exact sg ah aW
end
section
def Uh:cc:=⟨[(166,.cm [true,false])],cw,cz,false⟩
attribute [-go_sem] ei
theorem Qk (w:ae) (k n:Int) (l:List cg) {i:Nat}(h:i<l.length):iD w k n (l.take (i+1))=ik (iD w k n (l.take i)) ⟨k,n,0,0,0,.zero,l[i],[]⟩:=by
 unfold iD;rw[List.take_succ_eq_append_getElem h,List.foldl_append];rfl
theorem MT (w:ae) (k n:Int) (l:List cg) (h:w.book.length<=3900000000) (hb:0<w.ai.length) (hn:l.length<=1000):aY Tryz.prog 221 (eL w) [eI,vI k,vI n,.ro 5 (l.map cg.cs)] (.aZ []) (iA (iD w k n l)):=by
 refine aF Uh false Tryz.f221 ?_;conv=>enter[1];reduce
 refine bI Tryz.f221 23 [] (by kernel_rfl) (by decide +kernel) rfl ?_;have hm:l.length<=maxLen:=by unfold maxLen;omega
 have hx:=dR (bs:=w.bx) (by rw[dh];exact hb);refine aA hx ?_;refine im (fun m s=>∃(i:Nat),i<=l.length/\m=l.length - i/\s=⟨23,[(0,eI),(1,vI k),(2,vI n),(10,.ro 5 (l.map cg.cs)),(11,vI l.length),(12,vI i)],wS (iD w k n (l.take i)) 900000 1,1⟩) l.length (bO.intro (aB.b9 [1000000] [0,1,2,10,11,12] _) ?_) ?_
 ·refine aA hx ?_;exact⟨0,aR _,rfl,rfl⟩
 rintro m s ⟨i,hi,rfl,rfl⟩;rcases bp i l.length with ab|bM
 ·have ah:(i:Int)<(l.length:Int):=by omega
  have hg:l[i]?=some l[i]:=bm ab;have hw:=dx ab hm;have hv:=fV w k n (l.take i);have hk:=rZ w k n (l.take i);have ht:=Qk w k n l ab;generalize iD w k n (l.take i)=v at *;have lf:v.book.length<=4000000000:=by
   obtain⟨L,e1,e2,-⟩:=hk;rw[e1,List.length_append];rw[List.length_take]at e2;omega
  have aW:=dR (bs:=v.bx) (by rw[dh,hv.ai];exact hb);have hc:=BK v ⟨k,n,0,0,0,.zero,l[i],[]⟩ lf (by rw[hv.ai];exact hb) rfl;rw[<-ht]at hc;have dH:=fV w k n (l.take (i+1));generalize hu:iD w k n (l.take (i+1))=u at *;have cD:=dR (bs:=u.bx) (by rw[dh,dH.ai];exact hb);refine dP ah hg hw aW ?_;refine ji hc hw aW cD ?_;refine fh.intro (l.length - (i+1)) (by omega) (aB.b9 [1000000] [0,1,2,10,11,12] _) ?_;refine aA cD ?_;refine⟨i+1,ab,rfl,?_⟩;subst hu;rfl
 have hi:i=l.length:=by omega
 subst hi;have ah:¬((l.length:Int)<(l.length:Int)):=by omega
 have aW:=dR (bs:=(iD w k n l).bx) (by rw[dh,(fV w k n l).ai];exact hb);exact sg ah aW
theorem Vk (w:ae) (e:dK) (h:w.book.length<=4000000000) (hb:0<w.ai.length):aY Tryz.prog 239 (gJ w) [vA w 1000000,.agg e.cs] (vA (ik w e) 0) (eX (ik w e)):=by
 refine aF Uh false Tryz.f239 ?_;conv=>enter[1];reduce
 refine bI Tryz.f239 12 [.cell 4 64] (by kernel_rfl) (by decide +kernel) rfl ?_;have hx:=dR (bs:=w.bx) (by rw[dh];exact hb);have ha:=TP w.book h;unfold ik;simp -implicitDefEqProofs only[go_sem,ha,dK.cs,hx];simp only[gj,dK.cs];refine⟨?_,?_⟩<;>first|rfl|trivial
theorem Ca (w:ae) (e:dK) (h:w.book.length<=4000000000) (hb:0<w.ai.length) (hp:e.proof=[]):aY Tryz.prog 239 (gJ w) [vA w 1000000,.agg e.Hs] (vA (ik w e) 0) (eX (ik w e)):=
 (Vk w e h hb).arg fun rd φ vs hv=>by
  obtain⟨v,us,rfl,h1,h2⟩:=hv.kV;obtain⟨v2,X7,rfl,h3,h4⟩:=h2.kV;exact PW.cons h1 (PW.cons (h3.Iq (TO e hp)) h4)
end
section
def aeO:cc:=⟨[(239,.cm [true,false])],cw,cz,false⟩
attribute [-go_sem] ei
theorem MV (w:ae) (n:Int) (l:List ez) (h:w.book.length<=3900000000) (hb:0<w.ai.length) (hn:l.length<=1000):aY Tryz.prog 187 (gJ w) [vA w 1000000,vI n,.ro 13 (l.map ez.cs)] (vA (il w n l) 0) (eX (il w n l)):=by
 refine aF aeO false Tryz.f187 ?_;conv=>enter[1];reduce
 refine bI Tryz.f187 34 [.cell 6 64] (by kernel_rfl) (by decide +kernel) rfl ?_;have hm:l.length<=maxLen:=by unfold maxLen;omega
 have hx:=dR (bs:=w.bx) (by rw[dh];exact hb);refine aA hx ?_;refine im (fun m s=>∃(i:Nat),i<=l.length/\m=l.length - i/\s=⟨34,[(1,vI n),(2,.ro 13 (l.map ez.cs)),(3,.ptr 3 0 [] 35 0 0),(6,.ptr 6 0 [] 35 0 0),(7,vI i)],(3,0,one ⟨35,[(il w n (l.take i)).cells 10003 10000],0,false⟩)::(il w n (l.take i)).rows 10003 10000++[(6,0,one ⟨35,[jL],0,false⟩)],1⟩) l.length (bO.intro (aB.b9 [] [1,2,3,6,7] _) ?_) ?_
 ·refine aA hx ?_;exact⟨0,aR _,rfl,rfl⟩
 rintro m s ⟨i,hi,rfl,rfl⟩;rcases bp i l.length with ab|bM
 ·have ah:(i:Int)<(l.length:Int):=by omega
  have hg:l[i]?=some l[i]:=bm ab;have hw:=dx ab hm;have hv:=gG w n (l.take i);have hk:=DH w n (l.take i);have ht:=Wz w n l ab;generalize il w n (l.take i)=v at *;have lf:v.book.length<=4000000000:=by
   obtain⟨L,e1,e2,-⟩:=hk;rw[e1,List.length_append];rw[List.length_take]at e2;omega
  have aW:=dR (bs:=v.bx) (by rw[dh,hv.ai];exact hb);have hc:=Ca v ⟨4,n,l[i].bh,l[i].kind,l[i].code,l[i].held,l[i].told,[]⟩ lf (by rw[hv.ai];exact hb) rfl;rw[<-ht]at hc;have dH:=gG w n (l.take (i+1));generalize hu:il w n (l.take (i+1))=u at *;have cD:=dR (bs:=u.bx) (by rw[dh,dH.ai];exact hb);refine dP ah hg hw aW ?_;refine ji hc hw aW cD ?_;refine fh.intro (l.length - (i+1)) (by omega) (aB.b9 [] [1,2,3,6,7] _) ?_;refine aA cD ?_;refine⟨i+1,ab,rfl,?_⟩;subst hu;rfl
 have hi:i=l.length:=by omega
 subst hi;have ah:¬((l.length:Int)<(l.length:Int)):=by omega
 have aW:=dR (bs:=(il w n l).bx) (by rw[dh,(gG w n l).ai];exact hb);exact sg ah aW
end
section
def aeN:cc:=⟨[(239,.cm [true,false])],cw,cz,false⟩
attribute [-go_sem] ei
theorem MO (w:ae) (k n:Int) (l:List cg) (h:w.book.length<=3900000000) (hb:0<w.ai.length) (hn:l.length<=1000):aY Tryz.prog 240 (gJ w) [vA w 1000000,vI k,vI n,.ro 5 (l.map cg.cs)] (vA (iD w k n l) 0) (eX (iD w k n l)):=by
 refine aF aeN false Tryz.f240 ?_;conv=>enter[1];reduce
 refine bI Tryz.f240 26 [.cell 8 64] (by kernel_rfl) (by decide +kernel) rfl ?_;have hm:l.length<=maxLen:=by unfold maxLen;omega
 have hx:=dR (bs:=w.bx) (by rw[dh];exact hb);refine aA hx ?_;refine im (fun m s=>∃(i:Nat),i<=l.length/\m=l.length - i/\s=⟨26,[(1,vI k),(2,vI n),(3,.ro 5 (l.map cg.cs)),(4,.ptr 4 0 [] 35 0 0),(8,.ptr 8 0 [] 35 0 0),(9,vI i)],(4,0,one ⟨35,[(iD w k n (l.take i)).cells 10004 10000],0,false⟩)::(iD w k n (l.take i)).rows 10004 10000++[(8,0,one ⟨35,[jL],0,false⟩)],1⟩) l.length (bO.intro (aB.b9 [] [1,2,3,4,8,9] _) ?_) ?_
 ·refine aA hx ?_;exact⟨0,aR _,rfl,rfl⟩
 rintro m s ⟨i,hi,rfl,rfl⟩;rcases bp i l.length with ab|bM
 ·have ah:(i:Int)<(l.length:Int):=by omega
  have hg:l[i]?=some l[i]:=bm ab;have hw:=dx ab hm;have hv:=fV w k n (l.take i);have mw:=rZ w k n (l.take i);have ht:=Qk w k n l ab;generalize iD w k n (l.take i)=v at *;have lf:v.book.length<=4000000000:=by
   obtain⟨L,e1,e2,-⟩:=mw;rw[e1,List.length_append];rw[List.length_take]at e2;omega
  have aW:=dR (bs:=v.bx) (by rw[dh,hv.ai];exact hb);have hc:=Ca v ⟨k,n,0,0,0,.zero,l[i],[]⟩ lf (by rw[hv.ai];exact hb) rfl;rw[<-ht]at hc;have dH:=fV w k n (l.take (i+1));generalize hu:iD w k n (l.take (i+1))=u at *;have cD:=dR (bs:=u.bx) (by rw[dh,dH.ai];exact hb);refine dP ah hg hw aW ?_;refine ji hc hw aW cD ?_;refine fh.intro (l.length - (i+1)) (by omega) (aB.b9 [] [1,2,3,4,8,9] _) ?_;refine aA cD ?_;refine⟨i+1,ab,rfl,?_⟩;subst hu;rfl
 have hi:i=l.length:=by omega
 subst hi;have ah:¬((l.length:Int)<(l.length:Int)):=by omega
 have aW:=dR (bs:=(iD w k n l).bx) (by rw[dh,(fV w k n l).ai];exact hb);exact sg ah aW
end
section
def aeM:cc:=⟨[(239,.cm [true,false])],cw,cz,false⟩
attribute [-go_sem] ei
def iZ.rc (k:iZ):List AV:=k.cs (.ro 4 (k.proof.map aX.cs))
attribute [go_sem] iZ.rc
theorem Sb (w:ae) (n:Int) (l:List iZ) {i:Nat}(h:i<l.length):fC w n (l.take (i+1))=ik (fC w n (l.take i)) ⟨2,n,0,0,0,l[i].jn,l[i].new,l[i].proof⟩:=by
 unfold fC;rw[List.take_succ_eq_append_getElem h,List.foldl_append];rfl
theorem VC (w:ae) (n:Int) (l:List iZ) (h:w.book.length<=3900000000) (hb:0<w.ai.length) (hn:l.length<=1000) (hp:∀k∈l,k.proof.length<=1000):aY Tryz.prog 185 (gJ w) [vA w 1000000,vI n,.ro 11 (l.map iZ.rc)] (vA (fC w n l) 0) (eX (fC w n l)):=by
 refine aF aeM false Tryz.f185 ?_;conv=>enter[1];reduce
 refine bI Tryz.f185 36 [.cell 6 64] (by kernel_rfl) (by decide +kernel) rfl ?_;have hm:l.length<=maxLen:=by unfold maxLen;omega
 have hx:=dR (bs:=w.bx) (by rw[dh];exact hb);refine aA hx ?_;refine im (fun m s=>∃(i:Nat),i<=l.length/\m=l.length - i/\s=⟨36,[(1,vI n),(2,.ro 11 (l.map iZ.rc)),(3,.ptr 3 0 [] 35 0 0),(6,.ptr 6 0 [] 35 0 0),(7,vI i)],(3,0,one ⟨35,[(fC w n (l.take i)).cells 10003 10000],0,false⟩)::(fC w n (l.take i)).rows 10003 10000++[(6,0,one ⟨35,[jL],0,false⟩)],1⟩) l.length (bO.intro (aB.b9 [] [1,2,3,6,7] _) ?_) ?_
 ·refine aA hx ?_;exact⟨0,aR _,rfl,rfl⟩
 rintro m s ⟨i,hi,rfl,rfl⟩;rcases bp i l.length with ab|bM
 ·have ah:(i:Int)<(l.length:Int):=by omega
  have hg:l[i]?=some l[i]:=bm ab;have hw:=dx ab hm;have hv:=kK w n (l.take i);have hk:=wo w n (l.take i) (fun k hk=>hp k (List.mem_of_mem_take hk));have ht:=Sb w n l ab;generalize fC w n (l.take i)=v at *;have lf:v.book.length<=4000000000:=by
   obtain⟨L,e1,e2,-⟩:=hk;rw[e1,List.length_append];rw[List.length_take]at e2;omega
  have aW:=dR (bs:=v.bx) (by rw[dh,hv.ai];exact hb);have hc:=Vk v ⟨2,n,0,0,0,l[i].jn,l[i].new,l[i].proof⟩ lf (by rw[hv.ai];exact hb);rw[<-ht]at hc;have dH:=kK w n (l.take (i+1));generalize hu:fC w n (l.take (i+1))=u at *;have cD:=dR (bs:=u.bx) (by rw[dh,dH.ai];exact hb);refine dP ah hg hw aW ?_;refine ji hc hw aW cD ?_;refine fh.intro (l.length - (i+1)) (by omega) (aB.b9 [] [1,2,3,6,7] _) ?_;refine aA cD ?_;refine⟨i+1,ab,rfl,?_⟩;subst hu;rfl
 have hi:i=l.length:=by omega
 subst hi;have ah:¬((l.length:Int)<(l.length:Int)):=by omega
 have aW:=dR (bs:=(fC w n l).bx) (by rw[dh,(kK w n l).ai];exact hb);exact sg ah aW
end
section
def aeL:cc:=⟨[(166,.cm [true,false])],cw,cz,false⟩
attribute [-go_sem] ei
theorem VK (w:ae) (n:Int) (l:List iZ) (h:w.book.length<=3900000000) (hb:0<w.ai.length) (hn:l.length<=1000) (hp:∀k∈l,k.proof.length<=1000):aY Tryz.prog 164 (eL w) [eI,vI n,.ro 11 (l.map iZ.rc)] (.aZ []) (iA (fC w n l)):=by
 refine aF aeL false Tryz.f164 ?_;conv=>enter[1];reduce
 refine bI Tryz.f164 28 [] (by kernel_rfl) (by decide +kernel) rfl ?_;have hm:l.length<=maxLen:=by unfold maxLen;omega
 have hx:=dR (bs:=w.bx) (by rw[dh];exact hb);refine aA hx ?_;refine im (fun m s=>∃(i:Nat),i<=l.length/\m=l.length - i/\s=⟨28,[(0,eI),(1,vI n),(8,.ro 11 (l.map iZ.rc)),(9,vI l.length),(10,vI i)],wS (fC w n (l.take i)) 900000 1,1⟩) l.length (bO.intro (aB.b9 [1000000] [0,1,8,9,10] _) ?_) ?_
 ·refine aA hx ?_;exact⟨0,aR _,rfl,rfl⟩
 rintro m s ⟨i,hi,rfl,rfl⟩;rcases bp i l.length with ab|bM
 ·have ah:(i:Int)<(l.length:Int):=by omega
  have hg:l[i]?=some l[i]:=bm ab;have hw:=dx ab hm;have hv:=kK w n (l.take i);have hk:=wo w n (l.take i) (fun k hk=>hp k (List.mem_of_mem_take hk));have ht:=Sb w n l ab;generalize fC w n (l.take i)=v at *;have lf:v.book.length<=4000000000:=by
   obtain⟨L,e1,e2,-⟩:=hk;rw[e1,List.length_append];rw[List.length_take]at e2;omega
  have aW:=dR (bs:=v.bx) (by rw[dh,hv.ai];exact hb);have hc:=VJ v ⟨2,n,0,0,0,l[i].jn,l[i].new,l[i].proof⟩ lf (by rw[hv.ai];exact hb);rw[<-ht]at hc;have dH:=kK w n (l.take (i+1));generalize hu:fC w n (l.take (i+1))=u at *;have cD:=dR (bs:=u.bx) (by rw[dh,dH.ai];exact hb);refine dP ah hg hw aW ?_;refine jj (DE l[i].proof (by have:=hp _ (List.getElem_mem ab);omega)) aW ?_;refine ji hc hw aW cD ?_;refine fh.intro (l.length - (i+1)) (by omega) (aB.b9 [1000000] [0,1,8,9,10] _) ?_;refine aA cD ?_;refine⟨i+1,ab,rfl,?_⟩;subst hu;rfl
 have hi:i=l.length:=by omega
 subst hi;have ah:¬((l.length:Int)<(l.length:Int)):=by omega
 have aW:=dR (bs:=(fC w n l).bx) (by rw[dh,(kK w n l).ai];exact hb);exact sg ah aW
end
end Go.Proofs.YtobpfkgabdeefaaGreat.E

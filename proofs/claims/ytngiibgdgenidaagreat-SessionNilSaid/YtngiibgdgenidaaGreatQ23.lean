/- Walk of wire's parts, both ways (chapter 27). Walk of wire.written: a message's bytes (chapter 27). Walks of small functions of wire (chapter 27) and of proof (chapter 16): what may be. Walk of wire.told (chapter 27): may what a place has be? -/
import Derived.Test.YtngiibgdgenidaaGreatQ22
set_option linter.unusedSimpArgs false
set_option linter.unusedVariables false
set_option maxRecDepth 100000
set_option maxHeartbeats 4000000
namespace Go.Proofs.YtngiibgdgenidaaGreat
open Go Go.RowKit
theorem ch (n:Int) (w:World):Calls Tryz.prog 119 #[.int .i64 n] w fun e w'=>e= .returned (.bool (al n))∧w=w':=by
 by_cases h:n=3
 ·subst h
  go_enter Tryz.func119,Tryz.ntmps119
  go_wp2_with fail
  go_ret
  exact⟨rfl,rfl⟩
 ·go_enter Tryz.func119,Tryz.ntmps119
  go_wp2_with fail
  go_ret
  exact⟨by unfold al;congr 1,rfl⟩
theorem Ec {rd:Bool} {r r':Rec} {s s':List UInt8} (h:lB rd r s=some (r',s')) (hx:rd=false→aE r=true):s'.length≤s.length+85:=by
 unfold lB at h
 cases rd with
 |true=>
  simp only[if_true]at h
  have:=congrArg List.length (iL h).1
  rw[List.length_append]at this
  omega
 |false=>
  simp only[Bool.false_eq_true,if_false,Option.some.injEq,Prod.mk.injEq]at h
  have:=cP (hx rfl)
  rw[←h.2,List.length_append];omega
theorem Ed {rd:Bool} {r r':aH} {s s':List UInt8} (h:lC rd r s=some (r',s')) (hx:rd=false→bX r=true):s'.length≤s.length+200:=by
 unfold lC at h
 cases rd with
 |true=>
  simp only[if_true]at h
  have:=congrArg List.length (m8 h).1
  rw[List.length_append]at this
  omega
 |false=>
  simp only[Bool.false_eq_true,if_false,Option.some.injEq,Prod.mk.injEq]at h
  have:=gY (hx rfl)
  rw[←h.2,List.length_append];omega
theorem FO (F:List Nat) (q:Nat) (s:ByteArray) (rd br:Bool) (b:Nat) (epoch seq:Int) (nonce tag last:ByteArray) (askE askL:Int) (sr:Rec) (stg:ByteArray) (told:ar) (rcp:aH) (u l:Value) (w:World) (hp:aI w q s rd br) (hb:ac w b ((⟨2,epoch,seq,nonce,tag,last,askE,askL,⟨sr,stg⟩,told,rcp⟩:aa).cells u l) 73) (hbq:b≠q)
  (hF:rd=true→∀x∈F,x<w.heap.size) (hu:aC (q::b::F) w u told.up) (hl:aC (q::b::F) w l told.left) (hz:rd=true→(u= .slice none 0 0∧told.up=[])∧(l= .slice none 0 0∧told.left=[]))
  (hw:rd=false→aF (⟨2,epoch,seq,nonce,tag,last,askE,askL,⟨sr,stg⟩,told,rcp⟩:aa)=true∧nonce.size≤1000∧tag.size≤1000∧last.size≤1000∧stg.size≤1000) (hs:s.size≤1000000):
  Calls Tryz.prog 121 #[.pointer (some ⟨q,0,none⟩), .pointer (some ⟨b,0,none⟩)] w
   (iQ F w q b rd br (av rd br (⟨2,epoch,seq,nonce,tag,last,askE,askL,⟨sr,stg⟩,told,rcp⟩:aa) s.data.toList)):=by
 have HFF:=Lib.hid hF;clear hF
 have CN:=Lib.hid (fun h=>(hw h).2.1)
 have CT:=Lib.hid (fun h=>(hw h).2.2.1)
 have CL:=Lib.hid (fun h=>(hw h).2.2.2.1)
 have CS:=Lib.hid (fun h=>(hw h).2.2.2.2)
 have HZ:=Lib.hid hz
 have C1:=Lib.hid (show rd=false→0≤epoch∧epoch.toNat<256^4 from fun h=>by
  have:=(hw h).1
  simp[aF,bz]at this;omega)
 have HP0:=Lib.hid hp;have B0:=Lib.hid hb;have T0:Hid (ab [q,b] w w):=Lib.hid (ab.refl _ _)
 have Qu0:=Lib.hid hu;have Ql0:=Lib.hid hl
 have HLEN:=Lib.hid (show s.data.toList.length≤s.size+0 from Nat.le_refl _)
 have ck:=hb.cell (i:=0) rfl
 clear hp hb hu hl hz hw
 go_enter Tryz.func121,Tryz.ntmps121
 go_wp2_with fail
 refine(dJ q s rd br b 3 nonce _ 73 _ HP0.out B0.out rfl hbq (by omega) (fun h=>by have:=CN.out h;omega)).mono ?_
 rintro e' w1 he
 cases h1:cp rd nonce s.data.toList with
 |none=>
  rw[h1]at he
  obtain⟨rfl,hbad⟩:=he
  have HF:=Lib.hid (show av rd br (⟨2,epoch,seq,nonce,tag,last,askE,askL,⟨sr,stg⟩,told,rcp⟩:aa) s.data.toList=none by simp[av,bj,bi,cB,al,h1])
  have HBAD:=Lib.hid (hbad.sofar T0.out)
  clear hbad h1
  go_wp2_with fail
  refine⟨rfl, ?_⟩
  rw[HF.out]
  exact⟨rfl,HBAD.out⟩
 |some p=>
  obtain⟨x1,s1⟩:=p
  rw[h1]at he
  obtain⟨rfl,hd⟩:=he
  obtain⟨p1,tp1,hp1⟩:=hd.part
  have L1:s1.length≤s.size+1000:=by have:=dB h1 CN.out;have:=HLEN.out;omega
  have hs1:p1.size≤s.size+1000:=by rw[tp1.size];omega
  have B1:Hid (ac w1 b ((⟨2,epoch,seq,x1,tag,last,askE,askL,⟨sr,stg⟩,told,rcp⟩:aa).cells u l) 73):=Lib.hid hd.blk
  have T1:=Lib.hid (T0.out.trans hd.turned)
  have H1:=Lib.hid h1;have TP1:=Lib.hid tp1;have HP1:=Lib.hid hp1
  have Qu1:=Lib.hid (Qu0.out.tF hd.turned)
  have Ql1:=Lib.hid (Ql0.out.tF hd.turned)
  clear hd h1 tp1 hp1
  have ck1:=B1.out.cell (i:=0) rfl
  go_wp2_with fail
  refine(bY q p1 rd br b 1 4 epoch _ 73 _ HP1.out B1.out rfl hbq (by omega) (by omega) C1.out (by omega)).mono ?_
  rintro e' w2 he
  rw[show p1.data.toList=s1 from TP1.out]at he
  cases h2:bu rd 4 epoch s1 with
  |none=>
   rw[h2]at he
   obtain⟨rfl,hbad⟩:=he
   have HF:=Lib.hid (show av rd br (⟨2,epoch,seq,nonce,tag,last,askE,askL,⟨sr,stg⟩,told,rcp⟩:aa) s.data.toList=none by simp[av,bj,bi,cB,al,H1.out,h2])
   have HBAD:=Lib.hid (hbad.sofar T1.out)
   clear hbad h2
   go_wp2_with fail
   refine⟨rfl, ?_⟩
   rw[HF.out]
   exact⟨rfl,HBAD.out⟩
  |some p=>
   obtain⟨x2,s2⟩:=p
   rw[h2]at he
   obtain⟨rfl,hd⟩:=he
   obtain⟨p2,tp2,hp2⟩:=hd.part
   have L2:s2.length≤s.size+1004:=by have:=cq h2;have:=L1;omega
   have hs2:p2.size≤s.size+1004:=by rw[tp2.size];omega
   have B2:Hid (ac w2 b ((⟨2,x2,seq,x1,tag,last,askE,askL,⟨sr,stg⟩,told,rcp⟩:aa).cells u l) 73):=Lib.hid hd.blk
   have T2:=Lib.hid (T1.out.trans hd.turned)
   have H2:=Lib.hid h2;have TP2:=Lib.hid tp2;have HP2:=Lib.hid hp2
   have Qu2:=Lib.hid (Qu1.out.tF hd.turned)
   have Ql2:=Lib.hid (Ql1.out.tF hd.turned)
   clear hd h2 tp2 hp2
   have ck2:=B2.out.cell (i:=0) rfl
   go_wp2_with fail
   refine(ch 2 _).mono ?_
   rintro e' wt ⟨rfl,rfl⟩
   rw[show al 2=false from rfl]
   go_wp2_with fail
   first|go_end0|((try simp only[Exit.inBlock,Exit.then]);refine bodyPost_ret (results_none rfl _ _ _) rfl ?_)
   have HF:=Lib.hid (show av rd br (⟨2,epoch,seq,nonce,tag,last,askE,askL,⟨sr,stg⟩,told,rcp⟩:aa) s.data.toList=some ((⟨2,x2,seq,x1,tag,last,askE,askL,⟨sr,stg⟩,told,rcp⟩:aa),s2) by simp[av,bj,bi,cB,al,H1.out,H2.out])
   rw[HF.out]
   exact⟨rfl,u,l,⟨⟨p2,TP2.out,HP2.out⟩,B2.out,T2.out⟩,Qu2.out,Ql2.out⟩
theorem FP (F:List Nat) (q:Nat) (s:ByteArray) (rd br:Bool) (b:Nat) (epoch seq:Int) (nonce tag last:ByteArray) (askE askL:Int) (sr:Rec) (stg:ByteArray) (told:ar) (rcp:aH) (u l:Value) (w:World) (hp:aI w q s rd br) (hb:ac w b ((⟨3,epoch,seq,nonce,tag,last,askE,askL,⟨sr,stg⟩,told,rcp⟩:aa).cells u l) 73) (hbq:b≠q)
  (hF:rd=true→∀x∈F,x<w.heap.size) (hu:aC (q::b::F) w u told.up) (hl:aC (q::b::F) w l told.left) (hz:rd=true→(u= .slice none 0 0∧told.up=[])∧(l= .slice none 0 0∧told.left=[]))
  (hw:rd=false→aF (⟨3,epoch,seq,nonce,tag,last,askE,askL,⟨sr,stg⟩,told,rcp⟩:aa)=true∧nonce.size≤1000∧tag.size≤1000∧last.size≤1000∧stg.size≤1000) (hs:s.size≤1000000):
  Calls Tryz.prog 121 #[.pointer (some ⟨q,0,none⟩), .pointer (some ⟨b,0,none⟩)] w
   (iQ F w q b rd br (av rd br (⟨3,epoch,seq,nonce,tag,last,askE,askL,⟨sr,stg⟩,told,rcp⟩:aa) s.data.toList)):=by
 have HFF:=Lib.hid hF;clear hF
 have CN:=Lib.hid (fun h=>(hw h).2.1)
 have CT:=Lib.hid (fun h=>(hw h).2.2.1)
 have CL:=Lib.hid (fun h=>(hw h).2.2.2.1)
 have CS:=Lib.hid (fun h=>(hw h).2.2.2.2)
 have HZ:=Lib.hid hz
 have C1:=Lib.hid (show rd=false→0≤epoch∧epoch.toNat<256^4 from fun h=>by
  have:=(hw h).1
  simp[aF,bz]at this;omega)
 have HP0:=Lib.hid hp;have B0:=Lib.hid hb;have T0:Hid (ab [q,b] w w):=Lib.hid (ab.refl _ _)
 have Qu0:=Lib.hid hu;have Ql0:=Lib.hid hl
 have HLEN:=Lib.hid (show s.data.toList.length≤s.size+0 from Nat.le_refl _)
 have ck:=hb.cell (i:=0) rfl
 clear hp hb hu hl hz hw
 go_enter Tryz.func121,Tryz.ntmps121
 go_wp2_with fail
 refine(dJ q s rd br b 3 nonce _ 73 _ HP0.out B0.out rfl hbq (by omega) (fun h=>by have:=CN.out h;omega)).mono ?_
 rintro e' w1 he
 cases h1:cp rd nonce s.data.toList with
 |none=>
  rw[h1]at he
  obtain⟨rfl,hbad⟩:=he
  have HF:=Lib.hid (show av rd br (⟨3,epoch,seq,nonce,tag,last,askE,askL,⟨sr,stg⟩,told,rcp⟩:aa) s.data.toList=none by simp[av,bj,bi,cB,al,h1])
  have HBAD:=Lib.hid (hbad.sofar T0.out)
  clear hbad h1
  go_wp2_with fail
  refine⟨rfl, ?_⟩
  rw[HF.out]
  exact⟨rfl,HBAD.out⟩
 |some p=>
  obtain⟨x1,s1⟩:=p
  rw[h1]at he
  obtain⟨rfl,hd⟩:=he
  obtain⟨p1,tp1,hp1⟩:=hd.part
  have L1:s1.length≤s.size+1000:=by have:=dB h1 CN.out;have:=HLEN.out;omega
  have hs1:p1.size≤s.size+1000:=by rw[tp1.size];omega
  have B1:Hid (ac w1 b ((⟨3,epoch,seq,x1,tag,last,askE,askL,⟨sr,stg⟩,told,rcp⟩:aa).cells u l) 73):=Lib.hid hd.blk
  have T1:=Lib.hid (T0.out.trans hd.turned)
  have H1:=Lib.hid h1;have TP1:=Lib.hid tp1;have HP1:=Lib.hid hp1
  have Qu1:=Lib.hid (Qu0.out.tF hd.turned)
  have Ql1:=Lib.hid (Ql0.out.tF hd.turned)
  clear hd h1 tp1 hp1
  have ck1:=B1.out.cell (i:=0) rfl
  go_wp2_with fail
  refine(bY q p1 rd br b 1 4 epoch _ 73 _ HP1.out B1.out rfl hbq (by omega) (by omega) C1.out (by omega)).mono ?_
  rintro e' w2 he
  rw[show p1.data.toList=s1 from TP1.out]at he
  cases h2:bu rd 4 epoch s1 with
  |none=>
   rw[h2]at he
   obtain⟨rfl,hbad⟩:=he
   have HF:=Lib.hid (show av rd br (⟨3,epoch,seq,nonce,tag,last,askE,askL,⟨sr,stg⟩,told,rcp⟩:aa) s.data.toList=none by simp[av,bj,bi,cB,al,H1.out,h2])
   have HBAD:=Lib.hid (hbad.sofar T1.out)
   clear hbad h2
   go_wp2_with fail
   refine⟨rfl, ?_⟩
   rw[HF.out]
   exact⟨rfl,HBAD.out⟩
  |some p=>
   obtain⟨x2,s2⟩:=p
   rw[h2]at he
   obtain⟨rfl,hd⟩:=he
   obtain⟨p2,tp2,hp2⟩:=hd.part
   have L2:s2.length≤s.size+1004:=by have:=cq h2;have:=L1;omega
   have hs2:p2.size≤s.size+1004:=by rw[tp2.size];omega
   have B2:Hid (ac w2 b ((⟨3,x2,seq,x1,tag,last,askE,askL,⟨sr,stg⟩,told,rcp⟩:aa).cells u l) 73):=Lib.hid hd.blk
   have T2:=Lib.hid (T1.out.trans hd.turned)
   have H2:=Lib.hid h2;have TP2:=Lib.hid tp2;have HP2:=Lib.hid hp2
   have Qu2:=Lib.hid (Qu1.out.tF hd.turned)
   have Ql2:=Lib.hid (Ql1.out.tF hd.turned)
   clear hd h2 tp2 hp2
   have ck2:=B2.out.cell (i:=0) rfl
   go_wp2_with fail
   refine(ch 3 _).mono ?_
   rintro e' wt ⟨rfl,rfl⟩
   rw[show al 3=true from rfl]
   have cbr:=HP2.out.c2
   cases br with
   |true=>
    go_wp2_with fail
    first|go_end0|((try simp only[Exit.inBlock,Exit.then]);refine bodyPost_ret (results_none rfl _ _ _) rfl ?_)
    have HF:=Lib.hid (show av rd true (⟨3,epoch,seq,nonce,tag,last,askE,askL,⟨sr,stg⟩,told,rcp⟩:aa) s.data.toList=some ((⟨3,x2,seq,x1,tag,last,askE,askL,⟨sr,stg⟩,told,rcp⟩:aa),s2) by simp[av,bj,bi,cB,al,H1.out,H2.out])
    rw[HF.out]
    exact⟨rfl,u,l,⟨⟨p2,TP2.out,HP2.out⟩,B2.out,T2.out⟩,Qu2.out,Ql2.out⟩
   |false=>
    go_wp2_with fail
    refine(dJ q p2 rd false b 4 tag _ 73 _ HP2.out B2.out rfl hbq (by omega) (fun h=>by have:=CT.out h;omega)).mono ?_
    rintro e' w3 he
    rw[show p2.data.toList=s2 from TP2.out]at he
    cases h3:cp rd tag s2 with
    |none=>
     rw[h3]at he
     obtain⟨rfl,hbad⟩:=he
     have HF:=Lib.hid (show av rd false (⟨3,epoch,seq,nonce,tag,last,askE,askL,⟨sr,stg⟩,told,rcp⟩:aa) s.data.toList=none by simp[av,bj,bi,cB,al,H1.out,H2.out,h3])
     have HBAD:=Lib.hid (hbad.sofar T2.out)
     clear hbad h3
     go_wp2_with fail
     refine⟨rfl, ?_⟩
     rw[HF.out]
     exact⟨rfl,HBAD.out⟩
    |some p=>
     obtain⟨x3,s3⟩:=p
     rw[h3]at he
     obtain⟨rfl,hd⟩:=he
     obtain⟨p3,tp3,hp3⟩:=hd.part
     have L3:s3.length≤s.size+2004:=by have:=dB h3 CT.out;have:=L2;omega
     have hs3:p3.size≤s.size+2004:=by rw[tp3.size];omega
     have B3:Hid (ac w3 b ((⟨3,x2,seq,x1,x3,last,askE,askL,⟨sr,stg⟩,told,rcp⟩:aa).cells u l) 73):=Lib.hid hd.blk
     have T3:=Lib.hid (T2.out.trans hd.turned)
     have H3:=Lib.hid h3;have TP3:=Lib.hid tp3;have HP3:=Lib.hid hp3
     have Qu3:=Lib.hid (Qu2.out.tF hd.turned)
     have Ql3:=Lib.hid (Ql2.out.tF hd.turned)
     clear hd h3 tp3 hp3
     have ck3:=B3.out.cell (i:=0) rfl
     go_wp2_with fail
     first|go_end0|((try simp only[Exit.inBlock,Exit.then]);refine bodyPost_ret (results_none rfl _ _ _) rfl ?_)
     have HF:=Lib.hid (show av rd false (⟨3,epoch,seq,nonce,tag,last,askE,askL,⟨sr,stg⟩,told,rcp⟩:aa) s.data.toList=some ((⟨3,x2,seq,x1,x3,last,askE,askL,⟨sr,stg⟩,told,rcp⟩:aa),s3) by simp[av,bj,bi,cB,al,H1.out,H2.out,H3.out])
     rw[HF.out]
     exact⟨rfl,u,l,⟨⟨p3,TP3.out,HP3.out⟩,B3.out,T3.out⟩,Qu3.out,Ql3.out⟩
theorem FQ (F:List Nat) (q:Nat) (s:ByteArray) (rd br:Bool) (b:Nat) (epoch seq:Int) (nonce tag last:ByteArray) (askE askL:Int) (sr:Rec) (stg:ByteArray) (told:ar) (rcp:aH) (u l:Value) (w:World) (hp:aI w q s rd br) (hb:ac w b ((⟨4,epoch,seq,nonce,tag,last,askE,askL,⟨sr,stg⟩,told,rcp⟩:aa).cells u l) 73) (hbq:b≠q)
  (hF:rd=true→∀x∈F,x<w.heap.size) (hu:aC (q::b::F) w u told.up) (hl:aC (q::b::F) w l told.left) (hz:rd=true→(u= .slice none 0 0∧told.up=[])∧(l= .slice none 0 0∧told.left=[]))
  (hw:rd=false→aF (⟨4,epoch,seq,nonce,tag,last,askE,askL,⟨sr,stg⟩,told,rcp⟩:aa)=true∧nonce.size≤1000∧tag.size≤1000∧last.size≤1000∧stg.size≤1000) (hs:s.size≤1000000):
  Calls Tryz.prog 121 #[.pointer (some ⟨q,0,none⟩), .pointer (some ⟨b,0,none⟩)] w
   (iQ F w q b rd br (av rd br (⟨4,epoch,seq,nonce,tag,last,askE,askL,⟨sr,stg⟩,told,rcp⟩:aa) s.data.toList)):=by
 have HFF:=Lib.hid hF;clear hF
 have CN:=Lib.hid (fun h=>(hw h).2.1)
 have CT:=Lib.hid (fun h=>(hw h).2.2.1)
 have CL:=Lib.hid (fun h=>(hw h).2.2.2.1)
 have CS:=Lib.hid (fun h=>(hw h).2.2.2.2)
 have HZ:=Lib.hid hz
 have C1:=Lib.hid (show rd=false→0≤epoch∧epoch.toNat<256^4 from fun h=>by
  have:=(hw h).1
  simp[aF,bz]at this;omega)
 have C2:=Lib.hid (show rd=false→0≤seq∧seq.toNat<256^4 from fun h=>by
  have:=(hw h).1
  simp[aF,bz]at this;omega)
 have HP0:=Lib.hid hp;have B0:=Lib.hid hb;have T0:Hid (ab [q,b] w w):=Lib.hid (ab.refl _ _)
 have Qu0:=Lib.hid hu;have Ql0:=Lib.hid hl
 have HLEN:=Lib.hid (show s.data.toList.length≤s.size+0 from Nat.le_refl _)
 have ck:=hb.cell (i:=0) rfl
 clear hp hb hu hl hz hw
 go_enter Tryz.func121,Tryz.ntmps121
 go_wp2_with fail
 refine(dJ q s rd br b 3 nonce _ 73 _ HP0.out B0.out rfl hbq (by omega) (fun h=>by have:=CN.out h;omega)).mono ?_
 rintro e' w1 he
 cases h1:cp rd nonce s.data.toList with
 |none=>
  rw[h1]at he
  obtain⟨rfl,hbad⟩:=he
  have HF:=Lib.hid (show av rd br (⟨4,epoch,seq,nonce,tag,last,askE,askL,⟨sr,stg⟩,told,rcp⟩:aa) s.data.toList=none by simp[av,bj,bi,cB,al,h1])
  have HBAD:=Lib.hid (hbad.sofar T0.out)
  clear hbad h1
  go_wp2_with fail
  refine⟨rfl, ?_⟩
  rw[HF.out]
  exact⟨rfl,HBAD.out⟩
 |some p=>
  obtain⟨x1,s1⟩:=p
  rw[h1]at he
  obtain⟨rfl,hd⟩:=he
  obtain⟨p1,tp1,hp1⟩:=hd.part
  have L1:s1.length≤s.size+1000:=by have:=dB h1 CN.out;have:=HLEN.out;omega
  have hs1:p1.size≤s.size+1000:=by rw[tp1.size];omega
  have B1:Hid (ac w1 b ((⟨4,epoch,seq,x1,tag,last,askE,askL,⟨sr,stg⟩,told,rcp⟩:aa).cells u l) 73):=Lib.hid hd.blk
  have T1:=Lib.hid (T0.out.trans hd.turned)
  have H1:=Lib.hid h1;have TP1:=Lib.hid tp1;have HP1:=Lib.hid hp1
  have Qu1:=Lib.hid (Qu0.out.tF hd.turned)
  have Ql1:=Lib.hid (Ql0.out.tF hd.turned)
  clear hd h1 tp1 hp1
  have ck1:=B1.out.cell (i:=0) rfl
  go_wp2_with fail
  refine(bY q p1 rd br b 1 4 epoch _ 73 _ HP1.out B1.out rfl hbq (by omega) (by omega) C1.out (by omega)).mono ?_
  rintro e' w2 he
  rw[show p1.data.toList=s1 from TP1.out]at he
  cases h2:bu rd 4 epoch s1 with
  |none=>
   rw[h2]at he
   obtain⟨rfl,hbad⟩:=he
   have HF:=Lib.hid (show av rd br (⟨4,epoch,seq,nonce,tag,last,askE,askL,⟨sr,stg⟩,told,rcp⟩:aa) s.data.toList=none by simp[av,bj,bi,cB,al,H1.out,h2])
   have HBAD:=Lib.hid (hbad.sofar T1.out)
   clear hbad h2
   go_wp2_with fail
   refine⟨rfl, ?_⟩
   rw[HF.out]
   exact⟨rfl,HBAD.out⟩
  |some p=>
   obtain⟨x2,s2⟩:=p
   rw[h2]at he
   obtain⟨rfl,hd⟩:=he
   obtain⟨p2,tp2,hp2⟩:=hd.part
   have L2:s2.length≤s.size+1004:=by have:=cq h2;have:=L1;omega
   have hs2:p2.size≤s.size+1004:=by rw[tp2.size];omega
   have B2:Hid (ac w2 b ((⟨4,x2,seq,x1,tag,last,askE,askL,⟨sr,stg⟩,told,rcp⟩:aa).cells u l) 73):=Lib.hid hd.blk
   have T2:=Lib.hid (T1.out.trans hd.turned)
   have H2:=Lib.hid h2;have TP2:=Lib.hid tp2;have HP2:=Lib.hid hp2
   have Qu2:=Lib.hid (Qu1.out.tF hd.turned)
   have Ql2:=Lib.hid (Ql1.out.tF hd.turned)
   clear hd h2 tp2 hp2
   have ck2:=B2.out.cell (i:=0) rfl
   go_wp2_with fail
   refine(bY q p2 rd br b 2 4 seq _ 73 _ HP2.out B2.out rfl hbq (by omega) (by omega) C2.out (by omega)).mono ?_
   rintro e' w3 he
   rw[show p2.data.toList=s2 from TP2.out]at he
   cases h3:bu rd 4 seq s2 with
   |none=>
    rw[h3]at he
    obtain⟨rfl,hbad⟩:=he
    have HF:=Lib.hid (show av rd br (⟨4,epoch,seq,nonce,tag,last,askE,askL,⟨sr,stg⟩,told,rcp⟩:aa) s.data.toList=none by simp[av,bj,bi,cB,al,H1.out,H2.out,h3])
    have HBAD:=Lib.hid (hbad.sofar T2.out)
    clear hbad h3
    go_wp2_with fail
    refine⟨rfl, ?_⟩
    rw[HF.out]
    exact⟨rfl,HBAD.out⟩
   |some p=>
    obtain⟨x3,s3⟩:=p
    rw[h3]at he
    obtain⟨rfl,hd⟩:=he
    obtain⟨p3,tp3,hp3⟩:=hd.part
    have L3:s3.length≤s.size+1008:=by have:=cq h3;have:=L2;omega
    have hs3:p3.size≤s.size+1008:=by rw[tp3.size];omega
    have B3:Hid (ac w3 b ((⟨4,x2,x3,x1,tag,last,askE,askL,⟨sr,stg⟩,told,rcp⟩:aa).cells u l) 73):=Lib.hid hd.blk
    have T3:=Lib.hid (T2.out.trans hd.turned)
    have H3:=Lib.hid h3;have TP3:=Lib.hid tp3;have HP3:=Lib.hid hp3
    have Qu3:=Lib.hid (Qu2.out.tF hd.turned)
    have Ql3:=Lib.hid (Ql2.out.tF hd.turned)
    clear hd h3 tp3 hp3
    have ck3:=B3.out.cell (i:=0) rfl
    go_wp2_with fail
    refine(dJ q p3 rd br b 5 last _ 73 _ HP3.out B3.out rfl hbq (by omega) (fun h=>by have:=CL.out h;omega)).mono ?_
    rintro e' w4 he
    rw[show p3.data.toList=s3 from TP3.out]at he
    cases h4:cp rd last s3 with
    |none=>
     rw[h4]at he
     obtain⟨rfl,hbad⟩:=he
     have HF:=Lib.hid (show av rd br (⟨4,epoch,seq,nonce,tag,last,askE,askL,⟨sr,stg⟩,told,rcp⟩:aa) s.data.toList=none by simp[av,bj,bi,cB,al,H1.out,H2.out,H3.out,h4])
     have HBAD:=Lib.hid (hbad.sofar T3.out)
     clear hbad h4
     go_wp2_with fail
     refine⟨rfl, ?_⟩
     rw[HF.out]
     exact⟨rfl,HBAD.out⟩
    |some p=>
     obtain⟨x4,s4⟩:=p
     rw[h4]at he
     obtain⟨rfl,hd⟩:=he
     obtain⟨p4,tp4,hp4⟩:=hd.part
     have L4:s4.length≤s.size+2008:=by have:=dB h4 CL.out;have:=L3;omega
     have hs4:p4.size≤s.size+2008:=by rw[tp4.size];omega
     have B4:Hid (ac w4 b ((⟨4,x2,x3,x1,tag,x4,askE,askL,⟨sr,stg⟩,told,rcp⟩:aa).cells u l) 73):=Lib.hid hd.blk
     have T4:=Lib.hid (T3.out.trans hd.turned)
     have H4:=Lib.hid h4;have TP4:=Lib.hid tp4;have HP4:=Lib.hid hp4
     have Qu4:=Lib.hid (Qu3.out.tF hd.turned)
     have Ql4:=Lib.hid (Ql3.out.tF hd.turned)
     clear hd h4 tp4 hp4
     have ck4:=B4.out.cell (i:=0) rfl
     go_wp2_with fail
     refine(ch 4 _).mono ?_
     rintro e' wt ⟨rfl,rfl⟩
     rw[show al 4=true from rfl]
     have cbr:=HP4.out.c2
     cases br with
     |true=>
      go_wp2_with fail
      first|go_end0|((try simp only[Exit.inBlock,Exit.then]);refine bodyPost_ret (results_none rfl _ _ _) rfl ?_)
      have HF:=Lib.hid (show av rd true (⟨4,epoch,seq,nonce,tag,last,askE,askL,⟨sr,stg⟩,told,rcp⟩:aa) s.data.toList=some ((⟨4,x2,x3,x1,tag,x4,askE,askL,⟨sr,stg⟩,told,rcp⟩:aa),s4) by simp[av,bj,bi,cB,al,H1.out,H2.out,H3.out,H4.out])
      rw[HF.out]
      exact⟨rfl,u,l,⟨⟨p4,TP4.out,HP4.out⟩,B4.out,T4.out⟩,Qu4.out,Ql4.out⟩
     |false=>
      go_wp2_with fail
      refine(dJ q p4 rd false b 4 tag _ 73 _ HP4.out B4.out rfl hbq (by omega) (fun h=>by have:=CT.out h;omega)).mono ?_
      rintro e' w5 he
      rw[show p4.data.toList=s4 from TP4.out]at he
      cases h5:cp rd tag s4 with
      |none=>
       rw[h5]at he
       obtain⟨rfl,hbad⟩:=he
       have HF:=Lib.hid (show av rd false (⟨4,epoch,seq,nonce,tag,last,askE,askL,⟨sr,stg⟩,told,rcp⟩:aa) s.data.toList=none by simp[av,bj,bi,cB,al,H1.out,H2.out,H3.out,H4.out,h5])
       have HBAD:=Lib.hid (hbad.sofar T4.out)
       clear hbad h5
       go_wp2_with fail
       refine⟨rfl, ?_⟩
       rw[HF.out]
       exact⟨rfl,HBAD.out⟩
      |some p=>
       obtain⟨x5,s5⟩:=p
       rw[h5]at he
       obtain⟨rfl,hd⟩:=he
       obtain⟨p5,tp5,hp5⟩:=hd.part
       have L5:s5.length≤s.size+3008:=by have:=dB h5 CT.out;have:=L4;omega
       have hs5:p5.size≤s.size+3008:=by rw[tp5.size];omega
       have B5:Hid (ac w5 b ((⟨4,x2,x3,x1,x5,x4,askE,askL,⟨sr,stg⟩,told,rcp⟩:aa).cells u l) 73):=Lib.hid hd.blk
       have T5:=Lib.hid (T4.out.trans hd.turned)
       have H5:=Lib.hid h5;have TP5:=Lib.hid tp5;have HP5:=Lib.hid hp5
       have Qu5:=Lib.hid (Qu4.out.tF hd.turned)
       have Ql5:=Lib.hid (Ql4.out.tF hd.turned)
       clear hd h5 tp5 hp5
       have ck5:=B5.out.cell (i:=0) rfl
       go_wp2_with fail
       first|go_end0|((try simp only[Exit.inBlock,Exit.then]);refine bodyPost_ret (results_none rfl _ _ _) rfl ?_)
       have HF:=Lib.hid (show av rd false (⟨4,epoch,seq,nonce,tag,last,askE,askL,⟨sr,stg⟩,told,rcp⟩:aa) s.data.toList=some ((⟨4,x2,x3,x1,x5,x4,askE,askL,⟨sr,stg⟩,told,rcp⟩:aa),s5) by simp[av,bj,bi,cB,al,H1.out,H2.out,H3.out,H4.out,H5.out])
       rw[HF.out]
       exact⟨rfl,u,l,⟨⟨p5,TP5.out,HP5.out⟩,B5.out,T5.out⟩,Qu5.out,Ql5.out⟩
theorem FR (F:List Nat) (q:Nat) (s:ByteArray) (rd br:Bool) (b:Nat) (epoch seq:Int) (nonce tag last:ByteArray) (askE askL:Int) (sr:Rec) (stg:ByteArray) (told:ar) (rcp:aH) (u l:Value) (w:World) (hp:aI w q s rd br) (hb:ac w b ((⟨5,epoch,seq,nonce,tag,last,askE,askL,⟨sr,stg⟩,told,rcp⟩:aa).cells u l) 73) (hbq:b≠q)
  (hF:rd=true→∀x∈F,x<w.heap.size) (hu:aC (q::b::F) w u told.up) (hl:aC (q::b::F) w l told.left) (hz:rd=true→(u= .slice none 0 0∧told.up=[])∧(l= .slice none 0 0∧told.left=[]))
  (hw:rd=false→aF (⟨5,epoch,seq,nonce,tag,last,askE,askL,⟨sr,stg⟩,told,rcp⟩:aa)=true∧nonce.size≤1000∧tag.size≤1000∧last.size≤1000∧stg.size≤1000) (hs:s.size≤1000000):
  Calls Tryz.prog 121 #[.pointer (some ⟨q,0,none⟩), .pointer (some ⟨b,0,none⟩)] w
   (iQ F w q b rd br (av rd br (⟨5,epoch,seq,nonce,tag,last,askE,askL,⟨sr,stg⟩,told,rcp⟩:aa) s.data.toList)):=by
 have HFF:=Lib.hid hF;clear hF
 have CN:=Lib.hid (fun h=>(hw h).2.1)
 have CT:=Lib.hid (fun h=>(hw h).2.2.1)
 have CL:=Lib.hid (fun h=>(hw h).2.2.2.1)
 have CS:=Lib.hid (fun h=>(hw h).2.2.2.2)
 have HZ:=Lib.hid hz
 have C2:=Lib.hid (show rd=false→0≤seq∧seq.toNat<256^4 from fun h=>by
  have:=(hw h).1
  simp[aF,bz]at this;omega)
 have HP0:=Lib.hid hp;have B0:=Lib.hid hb;have T0:Hid (ab [q,b] w w):=Lib.hid (ab.refl _ _)
 have Qu0:=Lib.hid hu;have Ql0:=Lib.hid hl
 have HLEN:=Lib.hid (show s.data.toList.length≤s.size+0 from Nat.le_refl _)
 have ck:=hb.cell (i:=0) rfl
 clear hp hb hu hl hz hw
 go_enter Tryz.func121,Tryz.ntmps121
 go_wp2_with fail
 refine(dJ q s rd br b 3 nonce _ 73 _ HP0.out B0.out rfl hbq (by omega) (fun h=>by have:=CN.out h;omega)).mono ?_
 rintro e' w1 he
 cases h1:cp rd nonce s.data.toList with
 |none=>
  rw[h1]at he
  obtain⟨rfl,hbad⟩:=he
  have HF:=Lib.hid (show av rd br (⟨5,epoch,seq,nonce,tag,last,askE,askL,⟨sr,stg⟩,told,rcp⟩:aa) s.data.toList=none by simp[av,bj,bi,cB,al,h1])
  have HBAD:=Lib.hid (hbad.sofar T0.out)
  clear hbad h1
  go_wp2_with fail
  refine⟨rfl, ?_⟩
  rw[HF.out]
  exact⟨rfl,HBAD.out⟩
 |some p=>
  obtain⟨x1,s1⟩:=p
  rw[h1]at he
  obtain⟨rfl,hd⟩:=he
  obtain⟨p1,tp1,hp1⟩:=hd.part
  have L1:s1.length≤s.size+1000:=by have:=dB h1 CN.out;have:=HLEN.out;omega
  have hs1:p1.size≤s.size+1000:=by rw[tp1.size];omega
  have B1:Hid (ac w1 b ((⟨5,epoch,seq,x1,tag,last,askE,askL,⟨sr,stg⟩,told,rcp⟩:aa).cells u l) 73):=Lib.hid hd.blk
  have T1:=Lib.hid (T0.out.trans hd.turned)
  have H1:=Lib.hid h1;have TP1:=Lib.hid tp1;have HP1:=Lib.hid hp1
  have Qu1:=Lib.hid (Qu0.out.tF hd.turned)
  have Ql1:=Lib.hid (Ql0.out.tF hd.turned)
  clear hd h1 tp1 hp1
  have ck1:=B1.out.cell (i:=0) rfl
  go_wp2_with fail
  refine(bY q p1 rd br b 2 4 seq _ 73 _ HP1.out B1.out rfl hbq (by omega) (by omega) C2.out (by omega)).mono ?_
  rintro e' w2 he
  rw[show p1.data.toList=s1 from TP1.out]at he
  cases h2:bu rd 4 seq s1 with
  |none=>
   rw[h2]at he
   obtain⟨rfl,hbad⟩:=he
   have HF:=Lib.hid (show av rd br (⟨5,epoch,seq,nonce,tag,last,askE,askL,⟨sr,stg⟩,told,rcp⟩:aa) s.data.toList=none by simp[av,bj,bi,cB,al,H1.out,h2])
   have HBAD:=Lib.hid (hbad.sofar T1.out)
   clear hbad h2
   go_wp2_with fail
   refine⟨rfl, ?_⟩
   rw[HF.out]
   exact⟨rfl,HBAD.out⟩
  |some p=>
   obtain⟨x2,s2⟩:=p
   rw[h2]at he
   obtain⟨rfl,hd⟩:=he
   obtain⟨p2,tp2,hp2⟩:=hd.part
   have L2:s2.length≤s.size+1004:=by have:=cq h2;have:=L1;omega
   have hs2:p2.size≤s.size+1004:=by rw[tp2.size];omega
   have B2:Hid (ac w2 b ((⟨5,epoch,x2,x1,tag,last,askE,askL,⟨sr,stg⟩,told,rcp⟩:aa).cells u l) 73):=Lib.hid hd.blk
   have T2:=Lib.hid (T1.out.trans hd.turned)
   have H2:=Lib.hid h2;have TP2:=Lib.hid tp2;have HP2:=Lib.hid hp2
   have Qu2:=Lib.hid (Qu1.out.tF hd.turned)
   have Ql2:=Lib.hid (Ql1.out.tF hd.turned)
   clear hd h2 tp2 hp2
   have ck2:=B2.out.cell (i:=0) rfl
   go_wp2_with fail
   refine(ch 5 _).mono ?_
   rintro e' wt ⟨rfl,rfl⟩
   rw[show al 5=false from rfl]
   go_wp2_with fail
   first|go_end0|((try simp only[Exit.inBlock,Exit.then]);refine bodyPost_ret (results_none rfl _ _ _) rfl ?_)
   have HF:=Lib.hid (show av rd br (⟨5,epoch,seq,nonce,tag,last,askE,askL,⟨sr,stg⟩,told,rcp⟩:aa) s.data.toList=some ((⟨5,epoch,x2,x1,tag,last,askE,askL,⟨sr,stg⟩,told,rcp⟩:aa),s2) by simp[av,bj,bi,cB,al,H1.out,H2.out])
   rw[HF.out]
   exact⟨rfl,u,l,⟨⟨p2,TP2.out,HP2.out⟩,B2.out,T2.out⟩,Qu2.out,Ql2.out⟩
theorem FS (F:List Nat) (q:Nat) (s:ByteArray) (rd br:Bool) (b:Nat) (epoch seq:Int) (nonce tag last:ByteArray) (askE askL:Int) (sr:Rec) (stg:ByteArray) (told:ar) (rcp:aH) (u l:Value) (w:World) (hp:aI w q s rd br) (hb:ac w b ((⟨6,epoch,seq,nonce,tag,last,askE,askL,⟨sr,stg⟩,told,rcp⟩:aa).cells u l) 73) (hbq:b≠q)
  (hF:rd=true→∀x∈F,x<w.heap.size) (hu:aC (q::b::F) w u told.up) (hl:aC (q::b::F) w l told.left) (hz:rd=true→(u= .slice none 0 0∧told.up=[])∧(l= .slice none 0 0∧told.left=[]))
  (hw:rd=false→aF (⟨6,epoch,seq,nonce,tag,last,askE,askL,⟨sr,stg⟩,told,rcp⟩:aa)=true∧nonce.size≤1000∧tag.size≤1000∧last.size≤1000∧stg.size≤1000) (hs:s.size≤1000000):
  Calls Tryz.prog 121 #[.pointer (some ⟨q,0,none⟩), .pointer (some ⟨b,0,none⟩)] w
   (iQ F w q b rd br (av rd br (⟨6,epoch,seq,nonce,tag,last,askE,askL,⟨sr,stg⟩,told,rcp⟩:aa) s.data.toList)):=by
 have HFF:=Lib.hid hF;clear hF
 have CN:=Lib.hid (fun h=>(hw h).2.1)
 have CT:=Lib.hid (fun h=>(hw h).2.2.1)
 have CL:=Lib.hid (fun h=>(hw h).2.2.2.1)
 have CS:=Lib.hid (fun h=>(hw h).2.2.2.2)
 have HZ:=Lib.hid hz
 have C2:=Lib.hid (show rd=false→0≤seq∧seq.toNat<256^4 from fun h=>by
  have:=(hw h).1
  simp[aF,bz]at this;omega)
 have C3:=Lib.hid (show rd=false→aE sr=true from fun h=>by
  have:=(hw h).1
  simp[aF]at this;exact this.1.2)
 have HP0:=Lib.hid hp;have B0:=Lib.hid hb;have T0:Hid (ab [q,b] w w):=Lib.hid (ab.refl _ _)
 have Qu0:=Lib.hid hu;have Ql0:=Lib.hid hl
 have HLEN:=Lib.hid (show s.data.toList.length≤s.size+0 from Nat.le_refl _)
 have ck:=hb.cell (i:=0) rfl
 clear hp hb hu hl hz hw
 go_enter Tryz.func121,Tryz.ntmps121
 go_wp2_with fail
 refine(dJ q s rd br b 3 nonce _ 73 _ HP0.out B0.out rfl hbq (by omega) (fun h=>by have:=CN.out h;omega)).mono ?_
 rintro e' w1 he
 cases h1:cp rd nonce s.data.toList with
 |none=>
  rw[h1]at he
  obtain⟨rfl,hbad⟩:=he
  have HF:=Lib.hid (show av rd br (⟨6,epoch,seq,nonce,tag,last,askE,askL,⟨sr,stg⟩,told,rcp⟩:aa) s.data.toList=none by simp[av,bj,bi,cB,al,h1])
  have HBAD:=Lib.hid (hbad.sofar T0.out)
  clear hbad h1
  go_wp2_with fail
  refine⟨rfl, ?_⟩
  rw[HF.out]
  exact⟨rfl,HBAD.out⟩
 |some p=>
  obtain⟨x1,s1⟩:=p
  rw[h1]at he
  obtain⟨rfl,hd⟩:=he
  obtain⟨p1,tp1,hp1⟩:=hd.part
  have L1:s1.length≤s.size+1000:=by have:=dB h1 CN.out;have:=HLEN.out;omega
  have hs1:p1.size≤s.size+1000:=by rw[tp1.size];omega
  have B1:Hid (ac w1 b ((⟨6,epoch,seq,x1,tag,last,askE,askL,⟨sr,stg⟩,told,rcp⟩:aa).cells u l) 73):=Lib.hid hd.blk
  have T1:=Lib.hid (T0.out.trans hd.turned)
  have H1:=Lib.hid h1;have TP1:=Lib.hid tp1;have HP1:=Lib.hid hp1
  have Qu1:=Lib.hid (Qu0.out.tF hd.turned)
  have Ql1:=Lib.hid (Ql0.out.tF hd.turned)
  clear hd h1 tp1 hp1
  have ck1:=B1.out.cell (i:=0) rfl
  go_wp2_with fail
  refine(bY q p1 rd br b 2 4 seq _ 73 _ HP1.out B1.out rfl hbq (by omega) (by omega) C2.out (by omega)).mono ?_
  rintro e' w2 he
  rw[show p1.data.toList=s1 from TP1.out]at he
  cases h2:bu rd 4 seq s1 with
  |none=>
   rw[h2]at he
   obtain⟨rfl,hbad⟩:=he
   have HF:=Lib.hid (show av rd br (⟨6,epoch,seq,nonce,tag,last,askE,askL,⟨sr,stg⟩,told,rcp⟩:aa) s.data.toList=none by simp[av,bj,bi,cB,al,H1.out,h2])
   have HBAD:=Lib.hid (hbad.sofar T1.out)
   clear hbad h2
   go_wp2_with fail
   refine⟨rfl, ?_⟩
   rw[HF.out]
   exact⟨rfl,HBAD.out⟩
  |some p=>
   obtain⟨x2,s2⟩:=p
   rw[h2]at he
   obtain⟨rfl,hd⟩:=he
   obtain⟨p2,tp2,hp2⟩:=hd.part
   have L2:s2.length≤s.size+1004:=by have:=cq h2;have:=L1;omega
   have hs2:p2.size≤s.size+1004:=by rw[tp2.size];omega
   have B2:Hid (ac w2 b ((⟨6,epoch,x2,x1,tag,last,askE,askL,⟨sr,stg⟩,told,rcp⟩:aa).cells u l) 73):=Lib.hid hd.blk
   have T2:=Lib.hid (T1.out.trans hd.turned)
   have H2:=Lib.hid h2;have TP2:=Lib.hid tp2;have HP2:=Lib.hid hp2
   have Qu2:=Lib.hid (Qu1.out.tF hd.turned)
   have Ql2:=Lib.hid (Ql1.out.tF hd.turned)
   clear hd h2 tp2 hp2
   have ck2:=B2.out.cell (i:=0) rfl
   go_wp2_with fail
   refine(zG q p2 rd br b (⟨6,epoch,x2,x1,tag,last,askE,askL,⟨sr,stg⟩,told,rcp⟩:aa) u l _ HP2.out B2.out hbq (by omega) C3.out).mono ?_
   rintro e' w3 he
   rw[show p2.data.toList=s2 from TP2.out]at he
   cases h3:lB rd sr s2 with
   |none=>
    rw[h3]at he
    obtain⟨rfl,hbad⟩:=he
    have HF:=Lib.hid (show av rd br (⟨6,epoch,seq,nonce,tag,last,askE,askL,⟨sr,stg⟩,told,rcp⟩:aa) s.data.toList=none by simp[av,bj,bi,cB,al,H1.out,H2.out,h3])
    have HBAD:=Lib.hid (hbad.sofar T2.out)
    clear hbad h3
    go_wp2_with fail
    refine⟨rfl, ?_⟩
    rw[HF.out]
    exact⟨rfl,HBAD.out⟩
   |some p=>
    obtain⟨x3,s3⟩:=p
    rw[h3]at he
    obtain⟨rfl,hd⟩:=he
    obtain⟨p3,tp3,hp3⟩:=hd.part
    have L3:s3.length≤s.size+1089:=by have:=Ec h3 C3.out;have:=L2;omega
    have hs3:p3.size≤s.size+1089:=by rw[tp3.size];omega
    have B3:Hid (ac w3 b ((⟨6,epoch,x2,x1,tag,last,askE,askL,⟨x3,stg⟩,told,rcp⟩:aa).cells u l) 73):=Lib.hid hd.blk
    have T3:=Lib.hid (T2.out.trans hd.turned)
    have H3:=Lib.hid h3;have TP3:=Lib.hid tp3;have HP3:=Lib.hid hp3
    have Qu3:=Lib.hid (Qu2.out.tF hd.turned)
    have Ql3:=Lib.hid (Ql2.out.tF hd.turned)
    clear hd h3 tp3 hp3
    have ck3:=B3.out.cell (i:=0) rfl
    go_wp2_with fail
    refine(dJ q p3 rd br b 16 stg _ 73 _ HP3.out B3.out rfl hbq (by omega) (fun h=>by have:=CS.out h;omega)).mono ?_
    rintro e' w4 he
    rw[show p3.data.toList=s3 from TP3.out]at he
    cases h4:cp rd stg s3 with
    |none=>
     rw[h4]at he
     obtain⟨rfl,hbad⟩:=he
     have HF:=Lib.hid (show av rd br (⟨6,epoch,seq,nonce,tag,last,askE,askL,⟨sr,stg⟩,told,rcp⟩:aa) s.data.toList=none by simp[av,bj,bi,cB,al,H1.out,H2.out,H3.out,h4])
     have HBAD:=Lib.hid (hbad.sofar T3.out)
     clear hbad h4
     go_wp2_with fail
     refine⟨rfl, ?_⟩
     rw[HF.out]
     exact⟨rfl,HBAD.out⟩
    |some p=>
     obtain⟨x4,s4⟩:=p
     rw[h4]at he
     obtain⟨rfl,hd⟩:=he
     obtain⟨p4,tp4,hp4⟩:=hd.part
     have L4:s4.length≤s.size+2089:=by have:=dB h4 CS.out;have:=L3;omega
     have hs4:p4.size≤s.size+2089:=by rw[tp4.size];omega
     have B4:Hid (ac w4 b ((⟨6,epoch,x2,x1,tag,last,askE,askL,⟨x3,x4⟩,told,rcp⟩:aa).cells u l) 73):=Lib.hid hd.blk
     have T4:=Lib.hid (T3.out.trans hd.turned)
     have H4:=Lib.hid h4;have TP4:=Lib.hid tp4;have HP4:=Lib.hid hp4
     have Qu4:=Lib.hid (Qu3.out.tF hd.turned)
     have Ql4:=Lib.hid (Ql3.out.tF hd.turned)
     clear hd h4 tp4 hp4
     have ck4:=B4.out.cell (i:=0) rfl
     go_wp2_with fail
     refine(ch 6 _).mono ?_
     rintro e' wt ⟨rfl,rfl⟩
     rw[show al 6=false from rfl]
     go_wp2_with fail
     first|go_end0|((try simp only[Exit.inBlock,Exit.then]);refine bodyPost_ret (results_none rfl _ _ _) rfl ?_)
     have HF:=Lib.hid (show av rd br (⟨6,epoch,seq,nonce,tag,last,askE,askL,⟨sr,stg⟩,told,rcp⟩:aa) s.data.toList=some ((⟨6,epoch,x2,x1,tag,last,askE,askL,⟨x3,x4⟩,told,rcp⟩:aa),s4) by simp[av,bj,bi,cB,al,H1.out,H2.out,H3.out,H4.out])
     rw[HF.out]
     exact⟨rfl,u,l,⟨⟨p4,TP4.out,HP4.out⟩,B4.out,T4.out⟩,Qu4.out,Ql4.out⟩
theorem FT (F:List Nat) (q:Nat) (s:ByteArray) (rd br:Bool) (b:Nat) (epoch seq:Int) (nonce tag last:ByteArray) (askE askL:Int) (sr:Rec) (stg:ByteArray) (told:ar) (rcp:aH) (u l:Value) (w:World) (hp:aI w q s rd br) (hb:ac w b ((⟨7,epoch,seq,nonce,tag,last,askE,askL,⟨sr,stg⟩,told,rcp⟩:aa).cells u l) 73) (hbq:b≠q)
  (hF:rd=true→∀x∈F,x<w.heap.size) (hu:aC (q::b::F) w u told.up) (hl:aC (q::b::F) w l told.left) (hz:rd=true→(u= .slice none 0 0∧told.up=[])∧(l= .slice none 0 0∧told.left=[]))
  (hw:rd=false→aF (⟨7,epoch,seq,nonce,tag,last,askE,askL,⟨sr,stg⟩,told,rcp⟩:aa)=true∧nonce.size≤1000∧tag.size≤1000∧last.size≤1000∧stg.size≤1000) (hs:s.size≤1000000):
  Calls Tryz.prog 121 #[.pointer (some ⟨q,0,none⟩), .pointer (some ⟨b,0,none⟩)] w
   (iQ F w q b rd br (av rd br (⟨7,epoch,seq,nonce,tag,last,askE,askL,⟨sr,stg⟩,told,rcp⟩:aa) s.data.toList)):=by
 have HFF:=Lib.hid hF;clear hF
 have CN:=Lib.hid (fun h=>(hw h).2.1)
 have CT:=Lib.hid (fun h=>(hw h).2.2.1)
 have CL:=Lib.hid (fun h=>(hw h).2.2.2.1)
 have CS:=Lib.hid (fun h=>(hw h).2.2.2.2)
 have HZ:=Lib.hid hz
 have C4:=Lib.hid (show rd=false→dX askE askL=true from fun h=>by
  have:=(hw h).1
  simp[aF]at this;exact this)
 have HP0:=Lib.hid hp;have B0:=Lib.hid hb;have T0:Hid (ab [q,b] w w):=Lib.hid (ab.refl _ _)
 have Qu0:=Lib.hid hu;have Ql0:=Lib.hid hl
 have HLEN:=Lib.hid (show s.data.toList.length≤s.size+0 from Nat.le_refl _)
 have ck:=hb.cell (i:=0) rfl
 clear hp hb hu hl hz hw
 go_enter Tryz.func121,Tryz.ntmps121
 go_wp2_with fail
 refine(dJ q s rd br b 3 nonce _ 73 _ HP0.out B0.out rfl hbq (by omega) (fun h=>by have:=CN.out h;omega)).mono ?_
 rintro e' w1 he
 cases h1:cp rd nonce s.data.toList with
 |none=>
  rw[h1]at he
  obtain⟨rfl,hbad⟩:=he
  have HF:=Lib.hid (show av rd br (⟨7,epoch,seq,nonce,tag,last,askE,askL,⟨sr,stg⟩,told,rcp⟩:aa) s.data.toList=none by simp[av,bj,bi,cB,al,h1])
  have HBAD:=Lib.hid (hbad.sofar T0.out)
  clear hbad h1
  go_wp2_with fail
  refine⟨rfl, ?_⟩
  rw[HF.out]
  exact⟨rfl,HBAD.out⟩
 |some p=>
  obtain⟨x1,s1⟩:=p
  rw[h1]at he
  obtain⟨rfl,hd⟩:=he
  obtain⟨p1,tp1,hp1⟩:=hd.part
  have L1:s1.length≤s.size+1000:=by have:=dB h1 CN.out;have:=HLEN.out;omega
  have hs1:p1.size≤s.size+1000:=by rw[tp1.size];omega
  have B1:Hid (ac w1 b ((⟨7,epoch,seq,x1,tag,last,askE,askL,⟨sr,stg⟩,told,rcp⟩:aa).cells u l) 73):=Lib.hid hd.blk
  have T1:=Lib.hid (T0.out.trans hd.turned)
  have H1:=Lib.hid h1;have TP1:=Lib.hid tp1;have HP1:=Lib.hid hp1
  have Qu1:=Lib.hid (Qu0.out.tF hd.turned)
  have Ql1:=Lib.hid (Ql0.out.tF hd.turned)
  clear hd h1 tp1 hp1
  have ck1:=B1.out.cell (i:=0) rfl
  go_wp2_with fail
  refine(yL q p1 rd br b 6 askE askL _ 73 _ HP1.out B1.out rfl rfl hbq C4.out (by omega)).mono ?_
  rintro e' w2 he
  rw[show p1.data.toList=s1 from TP1.out]at he
  cases h2:ft rd askE askL s1 with
  |none=>
   rw[h2]at he
   obtain⟨rfl,hbad⟩:=he
   have HF:=Lib.hid (show av rd br (⟨7,epoch,seq,nonce,tag,last,askE,askL,⟨sr,stg⟩,told,rcp⟩:aa) s.data.toList=none by simp[av,bj,bi,cB,al,H1.out,h2])
   have HBAD:=Lib.hid (hbad.sofar T1.out)
   clear hbad h2
   go_wp2_with fail
   refine⟨rfl, ?_⟩
   rw[HF.out]
   exact⟨rfl,HBAD.out⟩
  |some p=>
   obtain⟨⟨x2,y2⟩,s2⟩:=p
   rw[h2]at he
   obtain⟨rfl,hd⟩:=he
   obtain⟨p2,tp2,hp2⟩:=hd.part
   have L2:s2.length≤s.size+1006:=by have:=pD h2;have:=L1;omega
   have hs2:p2.size≤s.size+1006:=by rw[tp2.size];omega
   have B2:Hid (ac w2 b ((⟨7,epoch,seq,x1,tag,last,x2,y2,⟨sr,stg⟩,told,rcp⟩:aa).cells u l) 73):=Lib.hid hd.blk
   have T2:=Lib.hid (T1.out.trans hd.turned)
   have H2:=Lib.hid h2;have TP2:=Lib.hid tp2;have HP2:=Lib.hid hp2
   have Qu2:=Lib.hid (Qu1.out.tF hd.turned)
   have Ql2:=Lib.hid (Ql1.out.tF hd.turned)
   clear hd h2 tp2 hp2
   have ck2:=B2.out.cell (i:=0) rfl
   go_wp2_with fail
   refine(ch 7 _).mono ?_
   rintro e' wt ⟨rfl,rfl⟩
   rw[show al 7=false from rfl]
   go_wp2_with fail
   first|go_end0|((try simp only[Exit.inBlock,Exit.then]);refine bodyPost_ret (results_none rfl _ _ _) rfl ?_)
   have HF:=Lib.hid (show av rd br (⟨7,epoch,seq,nonce,tag,last,askE,askL,⟨sr,stg⟩,told,rcp⟩:aa) s.data.toList=some ((⟨7,epoch,seq,x1,tag,last,x2,y2,⟨sr,stg⟩,told,rcp⟩:aa),s2) by simp[av,bj,bi,cB,al,H1.out,H2.out])
   rw[HF.out]
   exact⟨rfl,u,l,⟨⟨p2,TP2.out,HP2.out⟩,B2.out,T2.out⟩,Qu2.out,Ql2.out⟩
theorem FU (F:List Nat) (q:Nat) (s:ByteArray) (rd br:Bool) (b:Nat) (epoch seq:Int) (nonce tag last:ByteArray) (askE askL:Int) (sr:Rec) (stg:ByteArray) (told:ar) (rcp:aH) (u l:Value) (w:World) (hp:aI w q s rd br) (hb:ac w b ((⟨8,epoch,seq,nonce,tag,last,askE,askL,⟨sr,stg⟩,told,rcp⟩:aa).cells u l) 73) (hbq:b≠q)
  (hF:rd=true→∀x∈F,x<w.heap.size) (hu:aC (q::b::F) w u told.up) (hl:aC (q::b::F) w l told.left) (hz:rd=true→(u= .slice none 0 0∧told.up=[])∧(l= .slice none 0 0∧told.left=[]))
  (hw:rd=false→aF (⟨8,epoch,seq,nonce,tag,last,askE,askL,⟨sr,stg⟩,told,rcp⟩:aa)=true∧nonce.size≤1000∧tag.size≤1000∧last.size≤1000∧stg.size≤1000) (hs:s.size≤1000000):
  Calls Tryz.prog 121 #[.pointer (some ⟨q,0,none⟩), .pointer (some ⟨b,0,none⟩)] w
   (iQ F w q b rd br (av rd br (⟨8,epoch,seq,nonce,tag,last,askE,askL,⟨sr,stg⟩,told,rcp⟩:aa) s.data.toList)):=by
 have HFF:=Lib.hid hF;clear hF
 have CN:=Lib.hid (fun h=>(hw h).2.1)
 have CT:=Lib.hid (fun h=>(hw h).2.2.1)
 have CL:=Lib.hid (fun h=>(hw h).2.2.2.1)
 have CS:=Lib.hid (fun h=>(hw h).2.2.2.2)
 have HZ:=Lib.hid hz
 have C5:=Lib.hid (show rd=false→dd told=true from fun h=>by
  have:=(hw h).1
  simp[aF]at this;exact this)
 have HP0:=Lib.hid hp;have B0:=Lib.hid hb;have T0:Hid (ab [q,b] w w):=Lib.hid (ab.refl _ _)
 have Qu0:=Lib.hid hu;have Ql0:=Lib.hid hl
 have HLEN:=Lib.hid (show s.data.toList.length≤s.size+0 from Nat.le_refl _)
 have ck:=hb.cell (i:=0) rfl
 clear hp hb hu hl hz hw
 go_enter Tryz.func121,Tryz.ntmps121
 go_wp2_with fail
 refine(dJ q s rd br b 3 nonce _ 73 _ HP0.out B0.out rfl hbq (by omega) (fun h=>by have:=CN.out h;omega)).mono ?_
 rintro e' w1 he
 cases h1:cp rd nonce s.data.toList with
 |none=>
  rw[h1]at he
  obtain⟨rfl,hbad⟩:=he
  have HF:=Lib.hid (show av rd br (⟨8,epoch,seq,nonce,tag,last,askE,askL,⟨sr,stg⟩,told,rcp⟩:aa) s.data.toList=none by simp[av,bj,bi,cB,al,h1])
  have HBAD:=Lib.hid (hbad.sofar T0.out)
  clear hbad h1
  go_wp2_with fail
  refine⟨rfl, ?_⟩
  rw[HF.out]
  exact⟨rfl,HBAD.out⟩
 |some p=>
  obtain⟨x1,s1⟩:=p
  rw[h1]at he
  obtain⟨rfl,hd⟩:=he
  obtain⟨p1,tp1,hp1⟩:=hd.part
  have L1:s1.length≤s.size+1000:=by have:=dB h1 CN.out;have:=HLEN.out;omega
  have hs1:p1.size≤s.size+1000:=by rw[tp1.size];omega
  have B1:Hid (ac w1 b ((⟨8,epoch,seq,x1,tag,last,askE,askL,⟨sr,stg⟩,told,rcp⟩:aa).cells u l) 73):=Lib.hid hd.blk
  have T1:=Lib.hid (T0.out.trans hd.turned)
  have H1:=Lib.hid h1;have TP1:=Lib.hid tp1;have HP1:=Lib.hid hp1
  have Qu1:=Lib.hid (Qu0.out.tF hd.turned)
  have Ql1:=Lib.hid (Ql0.out.tF hd.turned)
  clear hd h1 tp1 hp1
  have ck1:=B1.out.cell (i:=0) rfl
  go_wp2_with fail
  refine(Eb F q p1 rd br b (⟨8,epoch,seq,x1,tag,last,askE,askL,⟨sr,stg⟩,told,rcp⟩:aa) u l _ HP1.out B1.out hbq (fun e x hx=>Nat.lt_of_lt_of_le (HFF.out e x hx) T1.out.size) Qu1.out Ql1.out HZ.out C5.out (by omega)).mono ?_
  rintro e' w2 he
  rw[show p1.data.toList=s1 from TP1.out]at he
  cases h2:di rd told s1 with
  |none=>
   simp only[cV,h2]at he
   obtain⟨rfl,hbad⟩:=he
   have HF:=Lib.hid (show av rd br (⟨8,epoch,seq,nonce,tag,last,askE,askL,⟨sr,stg⟩,told,rcp⟩:aa) s.data.toList=none by simp[av,bj,bi,cB,al,H1.out,h2])
   have HBAD:=Lib.hid (hbad.sofar T1.out)
   clear hbad h2
   go_wp2_with fail
   refine⟨rfl, ?_⟩
   rw[HF.out]
   exact⟨rfl,HBAD.out⟩
  |some p=>
   obtain⟨x2,s2⟩:=p
   simp only[cV,h2]at he
   obtain⟨rfl,u2,l2,hd,hqu,hql⟩:=he
   obtain⟨p2,tp2,hp2⟩:=hd.part
   have L2:s2.length≤s.size+23000:=by have:=BJ h2 C5.out;have:=L1;omega
   have hs2:p2.size≤s.size+23000:=by rw[tp2.size];omega
   have B2:Hid (ac w2 b ((⟨8,epoch,seq,x1,tag,last,askE,askL,⟨sr,stg⟩,x2,rcp⟩:aa).cells u2 l2) 73):=Lib.hid hd.blk
   have T2:=Lib.hid (T1.out.trans hd.turned)
   have H2:=Lib.hid h2;have TP2:=Lib.hid tp2;have HP2:=Lib.hid hp2
   have Qu2:=Lib.hid hqu
   have Ql2:=Lib.hid hql
   clear hqu hql
   clear hd h2 tp2 hp2
   have ck2:=B2.out.cell (i:=0) rfl
   go_wp2_with fail
   refine(ch 8 _).mono ?_
   rintro e' wt ⟨rfl,rfl⟩
   rw[show al 8=false from rfl]
   go_wp2_with fail
   first|go_end0|((try simp only[Exit.inBlock,Exit.then]);refine bodyPost_ret (results_none rfl _ _ _) rfl ?_)
   have HF:=Lib.hid (show av rd br (⟨8,epoch,seq,nonce,tag,last,askE,askL,⟨sr,stg⟩,told,rcp⟩:aa) s.data.toList=some ((⟨8,epoch,seq,x1,tag,last,askE,askL,⟨sr,stg⟩,x2,rcp⟩:aa),s2) by simp[av,bj,bi,cB,al,H1.out,H2.out])
   rw[HF.out]
   exact⟨rfl,u2,l2,⟨⟨p2,TP2.out,HP2.out⟩,B2.out,T2.out⟩,Qu2.out,Ql2.out⟩
theorem Ee (F:List Nat) (q:Nat) (s:ByteArray) (rd br:Bool) (b:Nat) (epoch seq:Int) (nonce tag last:ByteArray) (askE askL:Int) (sr:Rec) (stg:ByteArray) (told:ar) (rcp:aH) (u l:Value) (w:World) (hp:aI w q s rd br) (hb:ac w b ((⟨10,epoch,seq,nonce,tag,last,askE,askL,⟨sr,stg⟩,told,rcp⟩:aa).cells u l) 73) (hbq:b≠q)
  (hF:rd=true→∀x∈F,x<w.heap.size) (hu:aC (q::b::F) w u told.up) (hl:aC (q::b::F) w l told.left) (hz:rd=true→(u= .slice none 0 0∧told.up=[])∧(l= .slice none 0 0∧told.left=[]))
  (hw:rd=false→aF (⟨10,epoch,seq,nonce,tag,last,askE,askL,⟨sr,stg⟩,told,rcp⟩:aa)=true∧nonce.size≤1000∧tag.size≤1000∧last.size≤1000∧stg.size≤1000) (hs:s.size≤1000000):
  Calls Tryz.prog 121 #[.pointer (some ⟨q,0,none⟩), .pointer (some ⟨b,0,none⟩)] w
   (iQ F w q b rd br (av rd br (⟨10,epoch,seq,nonce,tag,last,askE,askL,⟨sr,stg⟩,told,rcp⟩:aa) s.data.toList)):=by
 have HFF:=Lib.hid hF;clear hF
 have CN:=Lib.hid (fun h=>(hw h).2.1)
 have CT:=Lib.hid (fun h=>(hw h).2.2.1)
 have CL:=Lib.hid (fun h=>(hw h).2.2.2.1)
 have CS:=Lib.hid (fun h=>(hw h).2.2.2.2)
 have HZ:=Lib.hid hz
 have C6:=Lib.hid (show rd=false→bX rcp=true from fun h=>by
  have:=(hw h).1
  simp[aF]at this;exact this)
 have HP0:=Lib.hid hp;have B0:=Lib.hid hb;have T0:Hid (ab [q,b] w w):=Lib.hid (ab.refl _ _)
 have Qu0:=Lib.hid hu;have Ql0:=Lib.hid hl
 have HLEN:=Lib.hid (show s.data.toList.length≤s.size+0 from Nat.le_refl _)
 have ck:=hb.cell (i:=0) rfl
 clear hp hb hu hl hz hw
 go_enter Tryz.func121,Tryz.ntmps121
 go_wp2_with fail
 refine(xp q s rd br b (⟨10,epoch,seq,nonce,tag,last,askE,askL,⟨sr,stg⟩,told,rcp⟩:aa) u l _ HP0.out B0.out hbq (by omega) C6.out).mono ?_
 rintro e' w1 he
 cases h1:lC rd rcp s.data.toList with
 |none=>
  rw[h1]at he
  obtain⟨rfl,hbad⟩:=he
  have HF:=Lib.hid (show av rd br (⟨10,epoch,seq,nonce,tag,last,askE,askL,⟨sr,stg⟩,told,rcp⟩:aa) s.data.toList=none by simp[av,bj,bi,cB,al,h1])
  have HBAD:=Lib.hid (hbad.sofar T0.out)
  clear hbad h1
  go_wp2_with fail
  refine⟨rfl, ?_⟩
  rw[HF.out]
  exact⟨rfl,HBAD.out⟩
 |some p=>
  obtain⟨x1,s1⟩:=p
  rw[h1]at he
  obtain⟨rfl,hd⟩:=he
  obtain⟨p1,tp1,hp1⟩:=hd.part
  have L1:s1.length≤s.size+200:=by have:=Ed h1 C6.out;have:=HLEN.out;omega
  have hs1:p1.size≤s.size+200:=by rw[tp1.size];omega
  have B1:Hid (ac w1 b ((⟨10,epoch,seq,nonce,tag,last,askE,askL,⟨sr,stg⟩,told,x1⟩:aa).cells u l) 73):=Lib.hid hd.blk
  have T1:=Lib.hid (T0.out.trans hd.turned)
  have H1:=Lib.hid h1;have TP1:=Lib.hid tp1;have HP1:=Lib.hid hp1
  have Qu1:=Lib.hid (Qu0.out.tF hd.turned)
  have Ql1:=Lib.hid (Ql0.out.tF hd.turned)
  clear hd h1 tp1 hp1
  have ck1:=B1.out.cell (i:=0) rfl
  go_wp2_with fail
  refine(ch 10 _).mono ?_
  rintro e' wt ⟨rfl,rfl⟩
  rw[show al 10=false from rfl]
  go_wp2_with fail
  first|go_end0|((try simp only[Exit.inBlock,Exit.then]);refine bodyPost_ret (results_none rfl _ _ _) rfl ?_)
  have HF:=Lib.hid (show av rd br (⟨10,epoch,seq,nonce,tag,last,askE,askL,⟨sr,stg⟩,told,rcp⟩:aa) s.data.toList=some ((⟨10,epoch,seq,nonce,tag,last,askE,askL,⟨sr,stg⟩,told,x1⟩:aa),s1) by simp[av,bj,bi,cB,al,H1.out])
  rw[HF.out]
  exact⟨rfl,u,l,⟨⟨p1,TP1.out,HP1.out⟩,B1.out,T1.out⟩,Qu1.out,Ql1.out⟩
theorem FV (F:List Nat) (q:Nat) (s:ByteArray) (rd br:Bool) (b:Nat) (kind:Int) (epoch seq:Int) (nonce tag last:ByteArray) (askE askL:Int) (sr:Rec) (stg:ByteArray) (told:ar) (rcp:aH) (u l:Value) (w:World) (hk:kind≠10∧kind≠2∧kind≠3∧kind≠4∧kind≠5∧kind≠6∧kind≠7∧kind≠8) (hp:aI w q s rd br) (hb:ac w b ((⟨kind,epoch,seq,nonce,tag,last,askE,askL,⟨sr,stg⟩,told,rcp⟩:aa).cells u l) 73) (hbq:b≠q)
  (hF:rd=true→∀x∈F,x<w.heap.size) (hu:aC (q::b::F) w u told.up) (hl:aC (q::b::F) w l told.left) (hz:rd=true→(u= .slice none 0 0∧told.up=[])∧(l= .slice none 0 0∧told.left=[]))
  (hw:rd=false→aF (⟨kind,epoch,seq,nonce,tag,last,askE,askL,⟨sr,stg⟩,told,rcp⟩:aa)=true∧nonce.size≤1000∧tag.size≤1000∧last.size≤1000∧stg.size≤1000) (hs:s.size≤1000000):
  Calls Tryz.prog 121 #[.pointer (some ⟨q,0,none⟩), .pointer (some ⟨b,0,none⟩)] w
   (iQ F w q b rd br (av rd br (⟨kind,epoch,seq,nonce,tag,last,askE,askL,⟨sr,stg⟩,told,rcp⟩:aa) s.data.toList)):=by
 have HFF:=Lib.hid hF;clear hF
 have CN:=Lib.hid (fun h=>(hw h).2.1)
 have CT:=Lib.hid (fun h=>(hw h).2.2.1)
 have CL:=Lib.hid (fun h=>(hw h).2.2.2.1)
 have CS:=Lib.hid (fun h=>(hw h).2.2.2.2)
 have HZ:=Lib.hid hz
 skip
 have HP0:=Lib.hid hp;have B0:=Lib.hid hb;have T0:Hid (ab [q,b] w w):=Lib.hid (ab.refl _ _)
 have Qu0:=Lib.hid hu;have Ql0:=Lib.hid hl
 have HLEN:=Lib.hid (show s.data.toList.length≤s.size+0 from Nat.le_refl _)
 have ck:=hb.cell (i:=0) rfl
 have HK:=Lib.hid hk
 have HTG:=Lib.hid (show al kind=false by unfold al;simp[hk.2.2.1,hk.2.2.2.1])
 obtain⟨k10,k2,k3,k4,k5,k6,k7,k8⟩:=hk
 clear hp hb hu hl hz hw
 go_enter Tryz.func121,Tryz.ntmps121
 go_wp2_with fail
 refine(dJ q s rd br b 3 nonce _ 73 _ HP0.out B0.out rfl hbq (by omega) (fun h=>by have:=CN.out h;omega)).mono ?_
 rintro e' w1 he
 cases h1:cp rd nonce s.data.toList with
 |none=>
  rw[h1]at he
  obtain⟨rfl,hbad⟩:=he
  have HF:=Lib.hid (show av rd br (⟨kind,epoch,seq,nonce,tag,last,askE,askL,⟨sr,stg⟩,told,rcp⟩:aa) s.data.toList=none by simp[av,bj,bi,cB,al,HK.out.1,HK.out.2.1,HK.out.2.2.1,HK.out.2.2.2.1,HK.out.2.2.2.2.1,HK.out.2.2.2.2.2.1,HK.out.2.2.2.2.2.2.1,HK.out.2.2.2.2.2.2.2,h1])
  have HBAD:=Lib.hid (hbad.sofar T0.out)
  clear hbad h1
  go_wp2_with fail
  refine⟨rfl, ?_⟩
  rw[HF.out]
  exact⟨rfl,HBAD.out⟩
 |some p=>
  obtain⟨x1,s1⟩:=p
  rw[h1]at he
  obtain⟨rfl,hd⟩:=he
  obtain⟨p1,tp1,hp1⟩:=hd.part
  have L1:s1.length≤s.size+1000:=by have:=dB h1 CN.out;have:=HLEN.out;omega
  have hs1:p1.size≤s.size+1000:=by rw[tp1.size];omega
  have B1:Hid (ac w1 b ((⟨kind,epoch,seq,x1,tag,last,askE,askL,⟨sr,stg⟩,told,rcp⟩:aa).cells u l) 73):=Lib.hid hd.blk
  have T1:=Lib.hid (T0.out.trans hd.turned)
  have H1:=Lib.hid h1;have TP1:=Lib.hid tp1;have HP1:=Lib.hid hp1
  have Qu1:=Lib.hid (Qu0.out.tF hd.turned)
  have Ql1:=Lib.hid (Ql0.out.tF hd.turned)
  clear hd h1 tp1 hp1
  have ck1:=B1.out.cell (i:=0) rfl
  go_wp2_with fail
  refine(ch kind _).mono ?_
  rintro e' wt ⟨rfl,rfl⟩
  rw[show al kind=false from HTG.out]
  go_wp2_with fail
  first|go_end0|((try simp only[Exit.inBlock,Exit.then]);refine bodyPost_ret (results_none rfl _ _ _) rfl ?_)
  have HF:=Lib.hid (show av rd br (⟨kind,epoch,seq,nonce,tag,last,askE,askL,⟨sr,stg⟩,told,rcp⟩:aa) s.data.toList=some ((⟨kind,epoch,seq,x1,tag,last,askE,askL,⟨sr,stg⟩,told,rcp⟩:aa),s1) by simp[av,bj,bi,cB,al,HK.out.1,HK.out.2.1,HK.out.2.2.1,HK.out.2.2.2.1,HK.out.2.2.2.2.1,HK.out.2.2.2.2.2.1,HK.out.2.2.2.2.2.2.1,HK.out.2.2.2.2.2.2.2,H1.out])
  rw[HF.out]
  exact⟨rfl,u,l,⟨⟨p1,TP1.out,HP1.out⟩,B1.out,T1.out⟩,Qu1.out,Ql1.out⟩
theorem rZ (F:List Nat) (q:Nat) (s:ByteArray) (rd br:Bool) (b:Nat) (m:aa) (u l:Value) (w:World) (hp:aI w q s rd br) (hb:ac w b (m.cells u l) 73) (hbq:b≠q)
  (hF:rd=true→∀x∈F,x<w.heap.size) (hu:aC (q::b::F) w u m.told.up) (hl:aC (q::b::F) w l m.told.left) (hz:rd=true→(u= .slice none 0 0∧m.told.up=[])∧(l= .slice none 0 0∧m.told.left=[]))
  (hw:rd=false→aF m=true∧m.nonce.size≤1000∧m.tag.size≤1000∧m.last.size≤1000∧m.sld.tag.size≤1000) (hs:s.size≤1000000):
  Calls Tryz.prog 121 #[.pointer (some ⟨q,0,none⟩), .pointer (some ⟨b,0,none⟩)] w
   (iQ F w q b rd br (av rd br m s.data.toList)):=by
 obtain⟨kind,epoch,seq,nonce,tag,last,askE,askL,⟨sr,stg⟩,told,rcp⟩:=m
 by_cases k2:kind=2
 ·subst k2
  exact FO F q s rd br b epoch seq nonce tag last askE askL sr stg told rcp u l w hp hb hbq hF hu hl hz hw hs
 by_cases k3:kind=3
 ·subst k3
  exact FP F q s rd br b epoch seq nonce tag last askE askL sr stg told rcp u l w hp hb hbq hF hu hl hz hw hs
 by_cases k4:kind=4
 ·subst k4
  exact FQ F q s rd br b epoch seq nonce tag last askE askL sr stg told rcp u l w hp hb hbq hF hu hl hz hw hs
 by_cases k5:kind=5
 ·subst k5
  exact FR F q s rd br b epoch seq nonce tag last askE askL sr stg told rcp u l w hp hb hbq hF hu hl hz hw hs
 by_cases k6:kind=6
 ·subst k6
  exact FS F q s rd br b epoch seq nonce tag last askE askL sr stg told rcp u l w hp hb hbq hF hu hl hz hw hs
 by_cases k7:kind=7
 ·subst k7
  exact FT F q s rd br b epoch seq nonce tag last askE askL sr stg told rcp u l w hp hb hbq hF hu hl hz hw hs
 by_cases k8:kind=8
 ·subst k8
  exact FU F q s rd br b epoch seq nonce tag last askE askL sr stg told rcp u l w hp hb hbq hF hu hl hz hw hs
 by_cases k10:kind=10
 ·subst k10
  exact Ee F q s rd br b epoch seq nonce tag last askE askL sr stg told rcp u l w hp hb hbq hF hu hl hz hw hs
 exact FV F q s rd br b kind epoch seq nonce tag last askE askL sr stg told rcp u l w ⟨k10,k2,k3,k4,k5,k6,k7,k8⟩ hp hb hbq hF hu hl hz hw hs
theorem oQ {m:aa} (h:aF m=true):1≤m.kind∧m.kind≤10:=by
 unfold aF at h
 split at h
 ·omega
 split at h
 ·omega
 split at h
 ·omega
 split at h
 ·omega
 split at h
 ·omega
 split at h
 ·omega
 split at h
 ·omega
 split at h
 ·omega
 ·cases h
theorem oR {m:aa} (h:dF m=true):m.told=ar.zero∧m.epoch=0∧m.seq=0∧(m.kind=10→m.nonce=⟨#[]⟩)∧(al m.kind=false→m.tag=⟨#[]⟩)∧m.last=⟨#[]⟩∧(m.askE=0∧m.askL=0)∧m.sld=ax.zero∧m.rcp=aH.zero:=by
 simp only[dF,Bool.and_eq_true,Bool.or_eq_true,decide_eq_true_eq]at h
 obtain⟨⟨⟨⟨⟨⟨⟨⟨h1,h2⟩,h3⟩,h4⟩,h5⟩,h6⟩,h7⟩,h8⟩,h9⟩:=h
 refine⟨h1,h2,h3,fun hk=> ?_,fun hk=> ?_,h6,h7,h8,h9⟩
 ·rcases h4 with h4|h4
  ·exact absurd hk h4
  ·exact h4
 ·rcases h5 with h5|h5
  ·rw[hk]at h5;cases h5
  ·exact h5
structure Ef (m:aa):Prop where
 says:aF m=true
 nonce10:m.kind=10→m.nonce=⟨#[]⟩
 tag0:al m.kind=false→m.tag=⟨#[]⟩
 nonce:m.nonce.size≤32
 tag:m.tag.size≤32
 last:m.last.size≤32
 stag:m.sld.tag.size≤32
theorem cS {m:aa} (h:aM m=true):Ef m:=by
 simp only[aM,Bool.and_eq_true,Bool.or_eq_true,decide_eq_true_eq]at h
 obtain⟨⟨h1,h2,h3⟩,h4⟩:=h
 have hb:=oR h4
 have hn:m.kind=10→m.nonce=⟨#[]⟩:=hb.2.2.2.1
 have ht:al m.kind=false→m.tag=⟨#[]⟩:=hb.2.2.2.2.1
 have hl:(if m.kind=4 then(⟨#[]⟩:ByteArray)else m.last)=⟨#[]⟩:=hb.2.2.2.2.2.1
 have hs:(if m.kind=6 then ax.zero else m.sld)=ax.zero:=hb.2.2.2.2.2.2.2.1
 refine⟨h1,hn,ht, ?_, ?_, ?_, ?_⟩
 ·rcases h2 with h2|h2
  ·rw[hn h2];decide
  ·omega
 ·cases hk:al m.kind with
  |true=>
   rcases h3 with h3|h3
   ·rw[hk]at h3;cases h3
   ·omega
  |false=>rw[ht hk];decide
 ·by_cases hk:m.kind=4
  ·have:=h1
   unfold aF at this
   simp[hk]at this
   omega
  ·rw[if_neg hk]at hl;rw[hl];decide
 ·by_cases hk:m.kind=6
  ·have:=h1
   unfold aF at this
   simp[hk]at this
   omega
  ·rw[if_neg hk]at hs;rw[hs];decide
theorem u5 {S:List Nat} {w w1:World} {v:Value} {xs:List ByteArray} (h:aX w v xs) (hb:Below w.heap.size w w1) (hS:∀x∈S,w.heap.size≤x):aC S w1 v xs:=by
 rcases h with h1|⟨g,o,c,h1,h2,_,h4⟩
 ·exact .inl h1
 ·exact .inr ⟨g,o,c,h1,Nat.lt_of_lt_of_le h2 hb.size,fun hm=>by have:=hS g hm;omega,fun j x hx=>by rw[hb.cell (by exact h2)];exact h4 j x hx⟩
def G0 (br:Bool) (m:aa):List UInt8:=if br then eU m else dj m
theorem ap {m:aa} {u l:Value}:(Tryz.prog.info? 73).map (·.size)=some (m.cells u l).length:=by kernel_rfl
theorem kA (m:aa) (u l:Value) (br:Bool) (w:World) (hu:aX w u m.told.up) (hl:aX w l m.told.left) (hok:aM m=true):
  Calls Tryz.prog 62 #[m.v u l, .bool br] w fun e w'=>∃r,e= .returned (.string r)∧ak r (G0 br m)∧Below w.heap.size w w':=by
 have HM:=Lib.hid (cS hok)
 have HU:=Lib.hid hu;have HL:=Lib.hid hl
 have hk:=oQ HM.out.says
 clear hu hl hok
 go_enter Tryz.func62,Tryz.ntmps62
 go_wp2_with (first
  |((with_reducible refine ai 73 (.tmp 0) (m.cells u l) (some 2) ?hgd ?ho ?hd ?hx ?_);(case hgd|ho|hd|hx=>rfl);(intro b w0 l0 B0 e0 z0))
  |((with_reducible refine ai 199 (.tmp 7) [.string ⟨#[]⟩, .bool false, .bool br] (some 8) ?hgd ?ho ?hd ?hx ?_);(case hgd|ho|hd|hx=>rfl);(intro q w1 l1 B1 e1 z1;have Bm1:=B0.below e1 (Nat.lt_of_lt_of_le B0.lt l1)))
  |fail)
 have hbq:b≠q:=by omega
 have HP1:Hid (aI w1 q ⟨#[]⟩ false br):=Lib.hid B1
 have HB1:=Lib.hid Bm1
 have hbel:Below w.heap.size w w1:=(e0.mono l0).trans (e1.mono (by have:=e0.size;omega))
 have HU1:Hid (aC [q,b] w1 u m.told.up):=Lib.hid (u5 HU.out hbel (fun x hx=>by simp only[List.mem_cons,List.mem_nil_iff,or_false]at hx;have:=e0.size;omega))
 have HL1:Hid (aC [q,b] w1 l m.told.left):=Lib.hid (u5 HL.out hbel (fun x hx=>by simp only[List.mem_cons,List.mem_nil_iff,or_false]at hx;have:=e0.size;omega))
 have HBEL:=Lib.hid hbel
 have hq:w.heap.size≤q:=by omega
 have hb0:w.heap.size≤b:=l0
 have hqb:w.heap.size≤w1.heap.size:=hbel.size
 clear B0 B1 Bm1 e0 e1 z0 z1 l0 l1 hbel HU HL
 refine(bY q ⟨#[]⟩ false br b 0 1 m.kind _ 73 _ HP1.out HB1.out rfl hbq (by omega) (by omega) (fun _=>by omega) (by decide)).mono ?_
 rintro e w2 ⟨rfl,hd⟩
 obtain⟨p2,tp2,hp2⟩:=hd.part
 have HP2:=Lib.hid hp2;have TP2:=Lib.hid tp2
 have HB2:Hid (ac w2 b (m.cells u l) 73):=Lib.hid (by have:=hd.blk;exact this)
 have T2:=Lib.hid hd.turned
 have hps:p2.size≤10:=by rw[tp2.size,List.length_append,beBytes_length];simp
 clear hd hp2 tp2
 go_wp2_with fail
 refine(rZ [] q p2 false br b m u l _ HP2.out HB2.out hbq (fun e=>by cases e) (HU1.out.turned T2.out) (HL1.out.turned T2.out) (fun h=>by cases h) (fun _=>⟨HM.out.says,by have:=HM.out.nonce;omega,by have:=HM.out.tag;omega,by have:=HM.out.last;omega,by have:=HM.out.stag;omega⟩) (by omega)).mono ?_
 rintro e w3 he
 rw[D4 HM.out.nonce10 HM.out.tag0]at he
 obtain⟨rfl,u',l',hd,_,_⟩:=he
 obtain⟨p3,tp3,hp3⟩:=hd.part
 have c3:=hp3.c0
 have TP3:=Lib.hid tp3
 have HBE:=Lib.hid ((T2.out.trans hd.turned).below HBEL.out (fun x hx=>by simp only[List.mem_cons,List.mem_nil_iff,or_false]at hx;omega) hqb)
 clear hd tp3 hp3
 go_wp2_with fail
 go_ret
 refine⟨p3,rfl,TP3.out.cast ?_,HBE.out⟩
 rw[show p2.data.toList= _ from TP2.out]
 cases br with
 |true=>simp[G0,eU]
 |false=>simp[G0,dj,eU]
def dk (n m:Int):Bool:=decide (0≤n)&&decide (n≤m)
theorem eV (n m:Int) (w:World):Calls Tryz.prog 219 #[.int .i64 n, .int .i64 m] w fun e w'=>e= .returned (.bool (dk n m))∧w=w':=by
 by_cases h:0≤n
 ·go_enter Tryz.func219,Tryz.ntmps219
  go_wp2_with fail
  go_ret
  exact⟨by unfold dk;simp[h],rfl⟩
 ·have h':n<0:=by omega
  go_enter Tryz.func219,Tryz.ntmps219
  go_wp2_with fail
  go_ret
  exact⟨by unfold dk;rw[decide_eq_false (show¬0≤n by omega)];rfl,rfl⟩
theorem kB (n:Int) (w:World):Calls Tryz.prog 356 #[.int .i64 n] w fun e w'=>e= .returned (.bool (decide (0≤n)&&decide (n<4096)))∧w=w':=by
 by_cases h:0≤n
 ·go_enter Tryz.func356,Tryz.ntmps356
  go_wp2_with fail
  go_ret
  exact⟨by simp[h],rfl⟩
 ·have h':n<0:=by omega
  go_enter Tryz.func356,Tryz.ntmps356
  go_wp2_with fail
  go_ret
  exact⟨by rw[decide_eq_false (show¬0≤n by omega)];rfl,rfl⟩
theorem eG (v:Value) (xs:List ByteArray) (w:World) (h:aX w v xs) (hl:xs.length≤1048576):
  Calls Tryz.prog 118 #[v] w fun e w'=>e= .returned (.bool (dl xs))∧w=w':=by
 obtain⟨n,hn⟩:∃n,n=xs.length:=⟨_,rfl⟩
 have hn2:n≤1048576:=by omega
 have hall:∀k,k≤xs.length→(∀(j:Nat) (s:ByteArray),j<k→xs[j]?=some s→s.size=32)→(k=xs.length→dl xs=true):=by
  intro k _ hh hk
  unfold dl
  rw[List.all_eq_true]
  intro s hs
  obtain⟨j,hj⟩:=List.getElem?_of_mem hs
  have:=(List.getElem?_eq_some_iff.1 hj).1
  simpa using hh j s (by omega) hj
 have hbad:∀(j:Nat) (s:ByteArray),xs[j]?=some s→s.size≠32→dl xs=false:=by
  intro j s hj hs
  cases hh:dl xs with
  |false=>rfl
  |true=>
   unfold dl at hh
   rw[List.all_eq_true]at hh
   have:=hh s (List.mem_of_getElem? hj)
   simp at this
   exact absurd this hs
 obtain⟨p,c,rfl⟩:∃(p:Option Addr) (c:Nat),v= .slice p n c:=by
  obtain⟨p,c,h1⟩:=h.shape
  exact⟨p,c,by rw[hn];exact h1⟩
 have HR:=Lib.hid h;clear h
 have HN:=Lib.hid hn;clear hn hl
 have HA:=Lib.hid hall;clear hall
 have HB:=Lib.hid hbad;clear hbad
 go_enter Tryz.func118,Tryz.ntmps118
 go_wp2_with fail
 go_loop [7] (fun i=>∃k:Nat,k≤n∧i= .int .i64 k∧∀(j:Nat) (s:ByteArray),j<k→xs[j]?=some s→s.size=32) (fun i=>n-(intOf i).toNat)
 case atStart=>exact⟨0,by omega,rfl,fun j s hj=>by omega⟩
 case round=>
  obtain⟨k,hk,rfl,hh⟩:=hrel
  have HH:=Lib.hid hh;clear hh
  by_cases hlt:k<n
  ·have hlt':(k:Int)<n:=by omega
   have h00:(0:Int)≤(k:Int):=by omega
   obtain⟨s,hs⟩:∃s,xs[k]?=some s:=⟨_,List.getElem?_eq_getElem (by rw[←HN.out];exact hlt)⟩
   rcases HR.out with⟨h0,_⟩|⟨g,o,c',hq,hg,_,hat⟩
   ·have:=HN.out;rw[h0]at this;simp at this;omega
   rw[←HN.out]at hq
   injection hq with hq1 _ hq3
   subst hq1 hq3
   have hc:=hat k s hs
   have HS:=Lib.hid hs
   clear hat hs
   by_cases h32:s.size=32
   ·have d32:(s.size:Int)=32:=by omega
    have H32:=Lib.hid h32;clear h32
    go_wp2_with fail
    go_round
    case rel=>
     refine⟨k+1,by omega,by go_num,fun j t hj ht=> ?_⟩
     by_cases hjk:j=k
     ·subst hjk
      rw[HS.out]at ht
      obtain rfl:=Option.some.inj ht
      exact H32.out
     ·exact HH.out j t (by omega) ht
    case measure=>simp[intOf];omega
   ·have d32:¬(s.size:Int)=32:=by omega
    have e1:=HB.out k s HS.out h32
    have E1:=Lib.hid e1
    clear e1 h32
    go_wp2_with fail
    go_ret
    exact⟨by rw[E1.out];rfl,rfl⟩
  ·obtain rfl:k=n:=by omega
   have e1:=HA.out k (by rw[←HN.out];omega) HH.out HN.out
   have E1:=Lib.hid e1
   clear e1
   go_wp2_with fail
   go_ret
   exact⟨by rw[E1.out];rfl,rfl⟩
theorem gI {w:World} {g:Nat} {x:ByteArray} {t:TypeId} (h:ac w g [.string x] t):aX w (.slice (some ⟨g,0,none⟩) 1 1) [x]:=
 .inr ⟨g,0,1,rfl,h.lt,fun hm=>(by cases hm),fun j y hy=>by
  have hj:=(List.getElem?_eq_some_iff.1 hy).1
  obtain rfl:j=0:=by simp at hj;omega
  simp at hy
  subst hy
  exact h.cell rfl⟩
theorem iG (x:ByteArray):dl [x]=decide (x.size=32):=by simp[dl]
theorem mx (e l:Int) (w:World):
  Calls Tryz.prog 222 #[.agg #[.int .i64 e, .int .i64 l]] w fun r w'=>r= .returned (.bool (dX e l))∧Below w.heap.size w w':=by
 cases h:dk e 4294967295 with
 |false=>
  have H:=Lib.hid h;clear h
  go_enter Tryz.func222,Tryz.ntmps222
  go_wp2_with (go_at_call 219;refine(eV e 4294967295 _).mono ?_;rintro r w1 ⟨rfl,rfl⟩;rw[H.out])
  go_ret
  refine⟨?_,(Below.refl _ _).alloc (Nat.le_refl _) _⟩
  have:=H.out
  unfold dk at this
  unfold dX bz
  rw[this];rfl
 |true=>
  have H:=Lib.hid h;clear h
  go_enter Tryz.func222,Tryz.ntmps222
  go_wp2_with fail
  refine(eV e 4294967295 _).mono ?_
  rintro r w1 ⟨rfl,rfl⟩
  rw[H.out]
  go_wp2_with fail
  refine(eV l 4095 _).mono ?_
  rintro r w1 ⟨rfl,rfl⟩
  go_wp2_with fail
  go_ret
  refine⟨?_,(Below.refl _ _).alloc (Nat.le_refl _) _⟩
  have:=H.out
  unfold dk at this ⊢
  unfold dX bz
  rw[this];simp
def iR (x:aN):List UInt8:=if dp x then beBytes 4 x.lba.toNat++x.hash.data.toList else[]
theorem zI (x:aN) (w:World) (hx:x.hash.size≤1048576):
  Calls Tryz.prog 344 #[x.v] w fun r w'=>∃s,r= .returned (.string s)∧ak s (iR x)∧Below w.heap.size w w':=by
 obtain⟨n,h⟩:=x
 unfold aN.v
 cases hp:(decide (0≤n)&&decide (n<4096))with
 |false=>
  have HF:=Lib.hid (show iR ⟨n,h⟩=[] by unfold iR dp;simp only[hp];rfl)
  have H:=Lib.hid hp;clear hp
  go_enter Tryz.func344,Tryz.ntmps344
  go_wp2_with (go_at_call 356;refine(kB n _).mono ?_;rintro r w1 ⟨rfl,rfl⟩;rw[H.out])
  go_ret
  refine⟨_,rfl, ?_,(Below.refl _ _).alloc (Nat.le_refl _) _⟩
  rw[HF.out];rfl
 |true=>
  have H:=Lib.hid hp
  simp only[Bool.and_eq_true,decide_eq_true_eq]at hp
  obtain⟨m,rfl⟩:∃m:Nat,n=(m:Int):=⟨n.toNat,by omega⟩
  have hm:m<4096:=by omega
  clear hp
  by_cases h32:h.size=32
  ·have d32:(h.size:Int)=32:=by omega
   have HF:=Lib.hid (show iR ⟨(m:Int),h⟩=beBytes 4 m++h.data.toList by unfold iR dp;simp only[H.out,d32];simp)
   clear h32
   go_enter Tryz.func344,Tryz.ntmps344
   go_wp2_with ((with_reducible refine ai 63 (.tmp 0) [.int .i64 (m:Int), .string h] (some 1) ?hgd ?ho ?hd ?hx ?_);(case hgd|ho|hd|hx=>rfl);(intro b w0 l0 B0 e0 z0;have c0:=B0.cell (i:=0) rfl;have c1:=B0.cell (i:=1) rfl))
   refine(kB m _).mono ?_
   rintro r w1 ⟨rfl,rfl⟩
   rw[H.out]
   go_wp2_with fail
   refine(mC m 4 _ (by omega) (by omega) (by omega) (fun _=>by omega)).mono ?_
   rintro r w2 ⟨r2,rfl,tr,hb2⟩
   have B2:=B0.below hb2 B0.lt
   have c12:=B2.cell (i:=1) rfl
   have hr:r2.size≤4:=by rw[tr.size,beBytes_length];omega
   have TR:=Lib.hid tr
   have HB:=Lib.hid ((e0.mono l0).trans (hb2.mono (by have:=e0.size;omega)))
   clear tr hb2 B2 c0 c1
   go_wp2_with fail
   go_ret
   refine⟨_,rfl,(TR.out.append (ak.self h)).cast HF.out.symm,HB.out⟩
  ·have d32:¬(h.size:Int)=32:=by omega
   have HF:=Lib.hid (show iR ⟨(m:Int),h⟩=[] by unfold iR dp;simp only[H.out,d32];simp)
   clear h32
   go_enter Tryz.func344,Tryz.ntmps344
   go_wp2_with (go_at_call 356;refine(kB m _).mono ?_;rintro r w1 ⟨rfl,rfl⟩;rw[H.out])
   go_ret
   refine⟨_,rfl, ?_,(Below.refl _ _).alloc (Nat.le_refl _) _⟩
   rw[HF.out];rfl
theorem qk (x:aN):iR x=[]↔dp x=false:=by
 unfold iR
 cases dp x with
 |false=>simp
 |true=>
  simp only[if_true,reduceCtorEq,iff_false]
  intro h
  have:=congrArg List.length h
  rw[List.length_append,beBytes_length]at this
  simp at this
theorem oS (x:aN) (w:World) (hx:x.hash.size≤1048576):
  Calls Tryz.prog 295 #[x.v] w fun r w'=>r= .returned (.bool (cI x))∧Below w.heap.size w w':=by
 cases hz:decide (x=aN.zero)with
 |true=>
  have HZ:=Lib.hid hz
  have HF:=Lib.hid (show cI x=true by unfold cI;rw[hz];rfl)
  clear hz
  go_enter Tryz.func295,Tryz.ntmps295
  go_wp2_with (first
   |((with_reducible refine ai 63 (.tmp 0) x.cells (some 1) ?hgd ?ho ?hd ?hx ?_);(case hgd|ho|hd|hx=>rfl);(intro b w0 l0 B0 e0 z0))
   |((with_reducible refine ag 63 (.tmp 1) b 0 x.cells _ (some 3) B0.range Tryz.underlying63 rfl eF ?hg ?ho ?hds ?hx ?_);(case hg|ho|hds|hx=>rfl))
   |((with_reducible refine cQ 63 63 (.tmp 3) (.tmp 4) x.cells.toArray aN.zero.cells.toArray _ (some 5) gl (kz x aN.zero _) ?hgd ?ho ?hd ?hx ?hy ?_);(case hgd|ho|hd|hx|hy=>rfl);rw[HZ.out])
   |fail)
  go_ret
  exact⟨by rw[HF.out];rfl,e0.mono l0⟩
 |false=>
  have HZ:=Lib.hid hz
  have HF:=Lib.hid (show cI x=dp x by unfold cI;rw[hz];rfl)
  clear hz
  go_enter Tryz.func295,Tryz.ntmps295
  go_wp2_with (first
   |((with_reducible refine ai 63 (.tmp 0) x.cells (some 1) ?hgd ?ho ?hd ?hx ?_);(case hgd|ho|hd|hx=>rfl);(intro b w0 l0 B0 e0 z0))
   |((with_reducible refine ag 63 (.tmp 1) b 0 x.cells _ (some 3) B0.range Tryz.underlying63 rfl eF ?hg ?ho ?hds ?hx ?_);(case hg|ho|hds|hx=>rfl))
   |((with_reducible refine cQ 63 63 (.tmp 3) (.tmp 4) x.cells.toArray aN.zero.cells.toArray _ (some 5) gl (kz x aN.zero _) ?hgd ?ho ?hd ?hx ?hy ?_);(case hgd|ho|hd|hx|hy=>rfl);rw[HZ.out])
   |((with_reducible refine ag 63 (.tmp 1) b 0 x.cells _ (some 7) B0.range Tryz.underlying63 rfl eF ?hg ?ho ?hds ?hx ?_);(case hg|ho|hds|hx=>rfl))
   |fail)
  refine(zI x _ hx).mono ?_
  rintro r w1 ⟨s,rfl,ts,hb1⟩
  have HB:=Lib.hid ((e0.mono l0).trans (hb1.mono (by have:=e0.size;omega)))
  cases hs:dp x with
  |true=>
   have k:(s.toList==[])=false:=by rw[ts.toList];have h:=(qk x);rw[hs]at h;simpa using h
   have HS:=Lib.hid hs
   clear ts hb1 hs e0 B0
   go_wp2_with fail
   go_ret
   exact⟨by rw[HF.out,HS.out];rfl,HB.out⟩
  |false=>
   have k:(s.toList==[])=true:=by rw[ts.toList,(qk x).2 hs];rfl
   have HS:=Lib.hid hs
   clear ts hb1 hs e0 B0
   go_wp2_with fail
   go_ret
   exact⟨by rw[HF.out,HS.out];rfl,HB.out⟩
def ar.pcells (t:ar) (u l:Value):List Value:=[.bool t.found, .int .i64 t.at_, .int .i64 t.here.lba, .string t.here.hash, .int .i64 t.ahead.lba, .string t.ahead.hash,u,l]
def ql:List Value:=[.bool false, .int .i64 0, .int .i64 0, .string ⟨#[]⟩, .int .i64 0, .string ⟨#[]⟩, .slice none 0 0, .slice none 0 0]
theorem ar.pAt (t:ar) (u l:Value):t.cells u l=(t.cells u l).take 3++t.pcells u l++(t.cells u l).drop 11:=rfl
theorem ac.lpart2 {w:World} {p:Nat} {t:ar} {u l:Value} {y:TypeId} (h:ac w p (t.pcells u l) y):w.rangeAt p 2 t.here.cells:=(h.ext (show t.pcells u l=(t.pcells u l).take 2++t.here.cells++(t.pcells u l).drop 4 from rfl)).part rfl
theorem ac.lpart4 {w:World} {p:Nat} {t:ar} {u l:Value} {y:TypeId} (h:ac w p (t.pcells u l) y):w.rangeAt p 4 t.ahead.cells:=(h.ext (show t.pcells u l=(t.pcells u l).take 4++t.ahead.cells++(t.pcells u l).drop 6 from rfl)).part rfl
theorem r4 (w:World):Sem.run Tryz.prog (zeroValue 67) w= .ok (.agg ql.toArray) w:=by kernel_rfl
theorem jY {t:ar} {u l:Value}:(Tryz.prog.info? 67).map (·.size)=some (t.pcells u l).length:=by kernel_rfl
theorem qm {t:ar} {w:World} {u l:Value} {xs ys:List ByteArray} (hu:aX w u xs) (hl:aX w l ys):∀v∈t.pcells u l,v.oneCell'=true:=by
 obtain⟨p,c,rfl⟩:=hu.shape
 obtain⟨p',c',rfl⟩:=hl.shape
 intro v hv
 simp only[ar.pcells,List.mem_cons,List.mem_nil_iff,or_false]at hv
 rcases hv with rfl|rfl|rfl|rfl|rfl|rfl|rfl|rfl<;>rfl
theorem pG (c:ByteArray):(c.toList==[])=decide (c=⟨#[]⟩):=by
 rw[Bool.eq_iff_iff]
 simp only[beq_iff_eq,decide_eq_true_eq]
 constructor
 ·intro h
  have:ak c []:=by rw[Lib.toList_data]at h;exact h
  exact this.eqB
 ·intro h;subst h;rw[Lib.toList_data]
theorem xq (t:ar) (u l:Value) (w:World) (hu:aX w u t.up) (hl:aX w l t.left) (hul:t.up.length≤1048576) (hll:t.left.length≤1048576) (hg:t.gone=true):
  Calls Tryz.prog 223 #[t.v u l] w fun r w'=>r= .returned (.bool (dd t))∧Below w.heap.size w w':=by
 obtain⟨pu,cu,hu1⟩:=hu.shape
 obtain⟨pl,cl,hl1⟩:=hl.shape
 obtain⟨nu,hnu⟩:∃n,n=t.up.length:=⟨_,rfl⟩
 obtain⟨nl,hnl⟩:∃n,n=t.left.length:=⟨_,rfl⟩
 rw[←hnu]at hu1 hul
 rw[←hnl]at hl1 hll
 have HNU:=Lib.hid hnu;have HNL:=Lib.hid hnl
 clear hnu hnl
 subst hu1 hl1
 have hwr:wrap64 ((nu:Int)+(nl:Int))=(nu:Int)+(nl:Int):=IntWalk.wrap64_in _ ⟨by omega,by omega⟩
 obtain⟨u,hu2⟩:∃u,u=Value.slice pu nu cu:=⟨_,rfl⟩
 obtain⟨l,hl2⟩:∃l,l=Value.slice pl nl cl:=⟨_,rfl⟩
 have hg':(Value.bool t.gone)= .bool true:=by rw[hg]
 obtain⟨ok,hok⟩:∃ok,ok=dd t:=⟨_,rfl⟩
 have HOK:=Lib.hid (show ok=(dX t.askE t.askL&&mn t) by rw[hok];unfold dd;rw[if_pos hg])
 rw[←hok]
 clear hok
 rw[←hu2]at hu ⊢
 rw[←hl2]at hl ⊢
 have HG:=Lib.hid hg
 have HU2:=Lib.hid hu2;have HL2:=Lib.hid hl2
 clear hu2 hl2 hg hg'
 go_enter Tryz.func223,Tryz.ntmps223
 go_wp2_with (first
  |((with_reducible refine ai 69 (.tmp 0) (t.cells u l) (some 1) ?hgd ?ho ?hd ?hx ?_);(case hgd|ho|hd|hx=>rfl);(intro b w0 l0 B0 e0 z0;have PR0:w0.rangeAt b 3 (t.pcells u l):=(B0.ext (t.pAt u l)).part rfl))
  |((with_reducible refine af 67 ql r4 (some 3) ?hgd ?ho ?hd ?_);(case hgd|ho|hd=>rfl);(intro p w1 l1 B1 e1 z1;have BB1:=B0.below e1 (Nat.lt_of_lt_of_le B0.lt l1)))
  |((with_reducible refine ag 67 (.tmp 5) b 3 (t.pcells u l) _ (some 6) PR0 Tryz.underlying67 rfl jY ?hg ?ho ?hds ?hx ?_);(case hg|ho|hds|hx=>rfl))
  |(((with_reducible refine ae 67 (.tmp 3) (.tmp 6) p ql (t.pcells u l) 67 B1 rfl jY (qm hu hl) ?hgd ?ho ?hx ?hy ?_);(case hgd|ho|hx|hy=>rfl);(intro w2 B2 o2;have BB2:=o2.blk BB1 (by have:=B0.lt;omega);have HB2:Below w.heap.size w w2:=o2.below ((e0.mono l0).trans (e1.mono (by have:=e0.size;omega))) (by have:=e0.size;omega);have c0:=BB2.cell (i:=0) rfl;have c1:=BB2.cell (i:=1) rfl;have c2:=BB2.cell (i:=2) rfl;have c11:=BB2.cell (i:=11) rfl;have c12:=BB2.cell (i:=12) rfl;have d0:=B2.cell (i:=0) rfl;have d1:=B2.cell (i:=1) rfl;have d6:=B2.cell (i:=6) rfl;have d7:=B2.cell (i:=7) rfl));rw[HG.out]at c2;rw[HU2.out]at d6;rw[HL2.out]at d7)
  |((go_at_call 222;refine(mx t.askE t.askL _).mono ?_;rintro e3 w3 ⟨rfl,hb3⟩;have BB3:=BB2.below hb3 BB2.lt;have P3:=B2.below hb3 B2.lt;have HB3:=HB2.trans (hb3.mono HB2.size);have ac0:=BB3.cell (i:=0) rfl;have ac1:=BB3.cell (i:=1) rfl;have ac2:=BB3.cell (i:=2) rfl;have ac11:=BB3.cell (i:=11) rfl;have ac12:=BB3.cell (i:=12) rfl;have ad0:=P3.cell (i:=0) rfl;have ad1:=P3.cell (i:=1) rfl;have ad6:=P3.cell (i:=6) rfl;have ad7:=P3.cell (i:=7) rfl);rw[HG.out]at ac2;rw[HU2.out]at ad6;rw[HL2.out]at ad7)
  |((with_reducible refine ag 63 (.tmp 33) p 2 t.here.cells _ (some 34) (P3.lpart2) Tryz.underlying63 rfl eF ?hg ?ho ?hds ?hx ?_);(case hg|ho|hds|hx=>rfl))
  |((with_reducible refine cQ 63 63 (.tmp 34) (.tmp 35) t.here.cells.toArray aN.zero.cells.toArray _ (some 36) gl (kz t.here aN.zero _) ?hgd ?ho ?hd ?hx ?hy ?_);(case hgd|ho|hd|hx|hy=>rfl))
  |((with_reducible refine ag 63 (.tmp 39) p 4 t.ahead.cells _ (some 40) (P3.lpart4) Tryz.underlying63 rfl eF ?hg ?ho ?hds ?hx ?_);(case hg|ho|hds|hx=>rfl))
  |((with_reducible refine cQ 63 63 (.tmp 40) (.tmp 41) t.ahead.cells.toArray aN.zero.cells.toArray _ (some 42) gl (kz t.ahead aN.zero _) ?hgd ?ho ?hd ?hx ?hy ?_);(case hgd|ho|hd|hx|hy=>rfl))
  |fail)
 all_goals go_ret
 all_goals refine⟨cL ?_,HB3⟩
 all_goals(rw[HOK.out];unfold mn;rw[←HNU.out,←HNL.out,←pG];simp[*];try(rw[Bool.eq_iff_iff];simp;omega))
theorem u6 (t:ar) (u l:Value) (w:World) (hu:aX w u t.up) (hl:aX w l t.left) (hul:t.up.length≤1048576) (hll:t.left.length≤1048576) (hx:t.here.hash.size≤1048576) (hy:t.ahead.hash.size≤1048576) (hg:t.gone=false):
  Calls Tryz.prog 223 #[t.v u l] w fun r w'=>r= .returned (.bool (dd t))∧Below w.heap.size w w':=by
 obtain⟨pu,cu,hu1⟩:=hu.shape
 obtain⟨pl,cl,hl1⟩:=hl.shape
 obtain⟨nu,hnu⟩:∃n,n=t.up.length:=⟨_,rfl⟩
 obtain⟨nl,hnl⟩:∃n,n=t.left.length:=⟨_,rfl⟩
 rw[←hnu]at hu1 hul
 rw[←hnl]at hl1 hll
 have HNU:=Lib.hid hnu;have HNL:=Lib.hid hnl
 clear hnu hnl
 subst hu1 hl1
 have hwr:wrap64 ((nu:Int)+(nl:Int))=(nu:Int)+(nl:Int):=IntWalk.wrap64_in _ ⟨by omega,by omega⟩
 obtain⟨u,hu2⟩:∃u,u=Value.slice pu nu cu:=⟨_,rfl⟩
 obtain⟨l,hl2⟩:∃l,l=Value.slice pl nl cl:=⟨_,rfl⟩
 have hg':(Value.bool t.gone)= .bool false:=by rw[hg]
 obtain⟨ok,hok⟩:∃ok,ok=dd t:=⟨_,rfl⟩
 have HOK:=Lib.hid (show ok=(dX t.askE t.askL&&bz t.slot&&decide ((t.cipher.size:Int)≤4000)&&(decide (0≤t.at_)&&decide (t.at_≤4096))&&cI t.here&&cI t.ahead&&(decide (t.up.length≤12)&&decide (t.left.length≤12)&&dl t.up&&dl t.left)) by rw[hok];unfold dd;rw[if_neg (by rw[hg];decide)])
 rw[←hok]
 clear hok
 rw[←hu2]at hu ⊢
 rw[←hl2]at hl ⊢
 have HG:=Lib.hid hg
 have HU2:=Lib.hid hu2;have HL2:=Lib.hid hl2
 clear hu2 hl2 hg hg'
 obtain⟨pok,hpok⟩:∃pok,pok=(decide (nu≤12)&&decide (nl≤12)&&dl t.up&&dl t.left):=⟨_,rfl⟩
 have HPOK:=Lib.hid hpok
 have HU3:Hid (aX w (.slice pu nu cu) t.up):=Lib.hid (by rw[←HU2.out];exact hu)
 have HL3:Hid (aX w (.slice pl nl cl) t.left):=Lib.hid (by rw[←HL2.out];exact hl)
 clear hpok
 go_enter Tryz.func223,Tryz.ntmps223
 go_upto_region 4 with(first
  |((with_reducible refine ai 69 (.tmp 0) (t.cells u l) (some 1) ?hgd ?ho ?hd ?hx ?_);(case hgd|ho|hd|hx=>rfl);(intro b w0 l0 B0 e0 z0;have PR0:w0.rangeAt b 3 (t.pcells u l):=(B0.ext (t.pAt u l)).part rfl))
  |((with_reducible refine af 67 ql r4 (some 3) ?hgd ?ho ?hd ?_);(case hgd|ho|hd=>rfl);(intro p w1 l1 B1 e1 z1;have BB1:=B0.below e1 (Nat.lt_of_lt_of_le B0.lt l1)))
  |((with_reducible refine ag 67 (.tmp 5) b 3 (t.pcells u l) _ (some 6) PR0 Tryz.underlying67 rfl jY ?hg ?ho ?hds ?hx ?_);(case hg|ho|hds|hx=>rfl))
  |(((with_reducible refine ae 67 (.tmp 3) (.tmp 6) p ql (t.pcells u l) 67 B1 rfl jY (qm hu hl) ?hgd ?ho ?hx ?hy ?_);(case hgd|ho|hx|hy=>rfl);(intro w2 B2 o2;have BB2:=o2.blk BB1 (by have:=B0.lt;omega);have HB2:Below w.heap.size w w2:=o2.below ((e0.mono l0).trans (e1.mono (by have:=e0.size;omega))) (by have:=e0.size;omega);have c0:=BB2.cell (i:=0) rfl;have c1:=BB2.cell (i:=1) rfl;have c2:=BB2.cell (i:=2) rfl;have c11:=BB2.cell (i:=11) rfl;have c12:=BB2.cell (i:=12) rfl;have d0:=B2.cell (i:=0) rfl;have d1:=B2.cell (i:=1) rfl;have d6:=B2.cell (i:=6) rfl;have d7:=B2.cell (i:=7) rfl));rw[HG.out]at c2;rw[HU2.out]at d6;rw[HL2.out]at d7)
  |fail)
 go_cut [4]from 54 to 73 (fun v wc=>v= .bool pok∧wc=w2)
 case first=>
  go_wp2_with (first
   |(have _:=wide1;(go_at_call 118;refine(eG (.slice pl nl cl) t.left _ (HL3.out.below HB2 (Nat.le_refl _)) (by rw[←HNL.out];omega)).mono ?_;rintro ev wv ⟨rfl,rfl⟩))
   |((go_at_call 118;refine(eG (.slice pu nu cu) t.up _ (HU3.out.below HB2 (Nat.le_refl _)) (by rw[←HNU.out];omega)).mono ?_;rintro eu wu ⟨rfl,rfl⟩);have wide1:=trivial)
   |fail)
  all_goals go_meet
  all_goals refine⟨congrArg Value.bool ?_,rfl⟩
  all_goals(rw[HPOK.out];simp_all;try omega)
 case rest=>
  obtain⟨rfl,rfl⟩:=hcut
  go_wp2_with (first
   |((go_at_call 222;refine(mx t.askE t.askL _).mono ?_;rintro e3 w3 ⟨rfl,hb3⟩;have BB3:=BB2.below hb3 BB2.lt;have P3:=B2.below hb3 B2.lt;have HB3:=HB2.trans (hb3.mono HB2.size);have ac0:=BB3.cell (i:=0) rfl;have ac1:=BB3.cell (i:=1) rfl;have ac2:=BB3.cell (i:=2) rfl;have ac11:=BB3.cell (i:=11) rfl;have ac12:=BB3.cell (i:=12) rfl;have ad0:=P3.cell (i:=0) rfl;have ad1:=P3.cell (i:=1) rfl;have ad6:=P3.cell (i:=6) rfl;have ad7:=P3.cell (i:=7) rfl);rw[HG.out]at ac2;rw[HU2.out]at ad6;rw[HL2.out]at ad7)
   |(go_at_call 219;refine(eV _ _ _).mono ?_;rintro ew ww ⟨rfl,rfl⟩)
   |((with_reducible refine ag 63 (.tmp 94) p 2 t.here.cells _ (some 95) (P3.lpart2) Tryz.underlying63 rfl eF ?hg ?ho ?hds ?hx ?_);(case hg|ho|hds|hx=>rfl))
   |(have _:=BB4;(go_at_call 295;refine(oS t.ahead _ hy).mono ?_;rintro e5 w5 ⟨rfl,hb5⟩;have BB5:=BB4.below hb5 BB4.lt;have P5:=P4.below hb5 P4.lt;have HB5:=HB4.trans (hb5.mono HB4.size);have yc0:=BB5.cell (i:=0) rfl;have yc1:=BB5.cell (i:=1) rfl;have yc2:=BB5.cell (i:=2) rfl;have yc11:=BB5.cell (i:=11) rfl;have yc12:=BB5.cell (i:=12) rfl;have yd0:=P5.cell (i:=0) rfl;have yd1:=P5.cell (i:=1) rfl;have yd6:=P5.cell (i:=6) rfl;have yd7:=P5.cell (i:=7) rfl))
   |((with_reducible refine ag 63 (.tmp 99) p 4 t.ahead.cells _ (some 100) (P4.lpart4) Tryz.underlying63 rfl eF ?hg ?ho ?hds ?hx ?_);(case hg|ho|hds|hx=>rfl))
   |((go_at_call 295;refine(oS t.here _ hx).mono ?_;rintro e4 w4 ⟨rfl,hb4⟩;have BB4:=BB3.below hb4 BB3.lt;have P4:=P3.below hb4 P3.lt;have HB4:=HB3.trans (hb4.mono HB3.size);have bc0:=BB4.cell (i:=0) rfl;have bc1:=BB4.cell (i:=1) rfl;have bc2:=BB4.cell (i:=2) rfl;have bc11:=BB4.cell (i:=11) rfl;have bc12:=BB4.cell (i:=12) rfl;have bd0:=P4.cell (i:=0) rfl;have bd1:=P4.cell (i:=1) rfl;have bd6:=P4.cell (i:=6) rfl;have bd7:=P4.cell (i:=7) rfl))
   |fail)
  all_goals go_ret
  all_goals refine⟨cL ?_, ?_⟩
  all_goals first|exact HB5|exact HB4|exact HB3|skip
  all_goals(rw[HOK.out];unfold bz;rw[←HNU.out,←HNL.out,←HPOK.out];simp_all [dk];try omega)
theorem xr (t:ar) (u l:Value) (w:World) (hu:aX w u t.up) (hl:aX w l t.left) (hul:t.up.length≤1048576) (hll:t.left.length≤1048576) (hx:t.here.hash.size≤1048576) (hy:t.ahead.hash.size≤1048576):
  Calls Tryz.prog 223 #[t.v u l] w fun r w'=>r= .returned (.bool (dd t))∧Below w.heap.size w w':=by
 cases hg:t.gone with
 |true=>exact xq t u l w hu hl hul hll hg
 |false=>exact u6 t u l w hu hl hul hll hx hy hg
end Go.Proofs.YtngiibgdgenidaaGreat

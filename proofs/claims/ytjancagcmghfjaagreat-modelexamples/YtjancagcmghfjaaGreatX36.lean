/- Texts MoT of this claim. -/
import Derived.Test.YtjancagcmghfjaaGreatX34
set_option maxHeartbeats 4000000
namespace Go.Proofs.YtjancagcmghfjaaGreat
namespace Mo
def exL:List Ln:=[⟨0,1,1,5⟩]
def exU:List Un:=[⟨0,2,[⟨10,3⟩],1,1,0,0,0,1⟩]
def exB:List Bd:=[⟨1,[⟨8,9⟩]⟩]
def un00:Un:=⟨0,0,[],0,0,0,0,0,0⟩
def bd00:Bd:=⟨0,[]⟩
def exHours:List (Hr × Int):=[
 (⟨0,[],[-1],List.replicate 6 un00,[],[]⟩,1),(⟨2,exL,[1],List.replicate 6 un00,[],[]⟩,1),(⟨2,exL,[],List.replicate 6 un00,[],[]⟩,5),(⟨2,exL,[],[],[],List.replicate 7 bd00⟩,5),
 (⟨2,exL,[],[⟨2,2,[⟨10,3⟩],1,1,0,0,0,1⟩],[],[]⟩,1),(⟨2,exL,[],[un00],[],[]⟩,4),(⟨2,exL,[],exU,[],[]⟩,3),(⟨2,exL,[],[],[true],[]⟩,3),
 (⟨2,exL,[],[],[],[⟨2,[⟨8,9⟩]⟩]⟩,1),(⟨2,exL,[],[],[],[bd00]⟩,4),(⟨2,exL,[],[],[],[]⟩,0)]
def exNone:Hr:=⟨2,exL,[],[],[],[]⟩
def exApart:Hr:=⟨2,exL,[0],exU,[true],exB⟩
def exOff:Hr:=⟨2,exL,[0],exU,[false],exB⟩
theorem yAB:hrErr exNone=0/\inv exNone=some [[1,0],[1,1]]/\obj (vars exNone)=[]/\rows exNone [[1,0],[1,1]]=[([],0),([],0),([],5),([],5)]:=by decide +kernel
theorem yAz:hrErr exApart=0/\inv exApart=some [[1,0],[0,1]]/\obj (vars exApart)=[-3,9]/\rows exApart [[1,0],[0,1]]=[([-1,0],0),([1,0],0),([0,1],0),([0,-1],0),([-1,0],-2),([1,0],10),([0,1],8)]:=by decide +kernel
theorem yAD:hrErr exOff=0/\inv exOff=some [[1,0],[0,1]]/\obj (vars exOff)=[9]/\rows exOff [[1,0],[0,1]]=[([0],0),([0],0),([1],0),([-1],0),([1],8)]:=by decide +kernel
end Mo
end Go.Proofs.YtjancagcmghfjaaGreat
